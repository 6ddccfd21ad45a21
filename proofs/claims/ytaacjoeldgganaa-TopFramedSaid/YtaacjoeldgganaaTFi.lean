import Derived.Test.YtaacjoeldgganaaSx1
import Derived.Test.YtaacjoeldgganaaSx2
import Derived.Test.YtaacjoeldgganaaSx3
import Derived.Test.YtaacjoeldgganaaSx4
import Derived.Test.YtaacjoeldgganaaTFj
/-! PutMsg. -/
namespace Go.Proofs.Ytaacjoeldgganaa.S
open Go.RowKit Go.Proofs.YtaacjoeldgganaaW.PrintWords Go.Proofs.YtaacjoeldgganaaW.PrintLast Go.Proofs.YtaacjoeldgganaaW.PrintMore
set_option linter.unusedVariables false
set_option linter.unusedSimpArgs false
def inB (a lo hi : Int) : Bool := decide (lo ≤ a) && decide (a ≤ hi)
theorem in_is (a lo hi : Int) : wire_in.f a lo hi = some (inB a lo hi) := by
  unfold wire_in.f inB
  by_cases h : a ≥ lo
  · rw [if_pos h, decide_eq_true h, Bool.true_and]
  · rw [if_neg h, decide_eq_false h, Bool.false_and]
theorem inB_true {a lo hi : Int} (h : inB a lo hi = true) : lo ≤ a ∧ a ≤ hi := by simpa [inB] using h
def pren (i : Nat) (h : List Int) (a b c d e f : Int) : List Int := match i with | 0 => h | 1 => h ++ enc a | 2 => h ++ enc a ++ enc b | 3 => h ++ enc a ++ enc b ++ enc c | 4 => h ++ enc a ++ enc b ++ enc c ++ enc d | 5 => h ++ enc a ++ enc b ++ enc c ++ enc d ++ enc e | _ => h ++ enc a ++ enc b ++ enc c ++ enc d ++ enc e ++ enc f
def entA (x0 x1 x2 : Int) (x3 : List Int) : Bool := !(inB x0 1 3 && inB x1 1 1099511627776 && inB x2 1 1099511627776 && (x0 != 1 || (x3.length : Int) == 0))
def entL (x3 : List Int) : Bool := decide ((x3.length : Int) > 2048)
theorem ent_is (x0 x1 x2 : Int) (x3 : List Int) : wire_entry.f x0 x1 x2 x3 = some (entA x0 x1 x2 x3, entL x3) := by
  unfold wire_entry.f entA entL
  rw [in_is, in_is, in_is]
  simp only [Option.bind_some]
  by_cases hx : x0 = 1
  · subst hx
    have h : inB 1 1 3 = true := by decide
    rcases Bool.eq_false_or_eq_true (inB x1 1 1099511627776) with h' | h' <;> rcases Bool.eq_false_or_eq_true (inB x2 1 1099511627776) with h'' | h'' <;> simp [h, h', h'']
  · rcases Bool.eq_false_or_eq_true (inB x0 1 3) with h | h <;> rcases Bool.eq_false_or_eq_true (inB x1 1 1099511627776) with h' | h' <;> rcases Bool.eq_false_or_eq_true (inB x2 1 1099511627776) with h'' | h'' <;> simp [h, h', h'', hx]
theorem ent_ok {x0 x1 x2 : Int} {x3 : List Int} (h : entA x0 x1 x2 x3 = false) (h' : entL x3 = false) : wfE ⟨x0, x1, x2, x3⟩ := by
  unfold entA at h
  unfold entL at h'
  simp only [Bool.not_eq_false', Bool.and_eq_true] at h
  obtain ⟨⟨⟨h1, h2⟩, h3⟩, h4⟩ := h
  have a := inB_true h1
  have b := inB_true h2
  have c := inB_true h3
  refine ⟨a.1, a.2, b.1, b.2, c.1, c.2, ?_, by have := of_decide_eq_false h'; show x3.length ≤ 2048; omega⟩
  intro hx
  simp only at hx
  subst hx
  simpa using h4
def okHead (f0 f1 f2 : Int) : Prop := (1 ≤ f0 ∧ f0 ≤ 7) ∧ (1 ≤ f1 ∧ f1 ≤ 9) ∧ (1 ≤ f2 ∧ f2 ≤ 9)
def okN (i : Nat) (f3 f4 f5 f6 f7 f8 : Int) : Prop := (0 < i → numOk f3) ∧ (1 < i → numOk f4) ∧ (2 < i → numOk f5) ∧ (3 < i → numOk f6) ∧ (4 < i → numOk f7) ∧ (5 < i → numOk f8)
theorem idx_0 (a0 a1 a2 a3 a4 a5 : Int) (W : World) : (Instr.index 44 (.agg #[.int .i64 a0, .int .i64 a1, .int .i64 a2, .int .i64 a3, .int .i64 a4, .int .i64 a5]) (.int .i64 0)).run Try.prog W = .ok (.int .i64 a0) W := by kernel_rfl
theorem idx_1 (a0 a1 a2 a3 a4 a5 : Int) (W : World) : (Instr.index 44 (.agg #[.int .i64 a0, .int .i64 a1, .int .i64 a2, .int .i64 a3, .int .i64 a4, .int .i64 a5]) (.int .i64 1)).run Try.prog W = .ok (.int .i64 a1) W := by kernel_rfl
theorem idx_2 (a0 a1 a2 a3 a4 a5 : Int) (W : World) : (Instr.index 44 (.agg #[.int .i64 a0, .int .i64 a1, .int .i64 a2, .int .i64 a3, .int .i64 a4, .int .i64 a5]) (.int .i64 2)).run Try.prog W = .ok (.int .i64 a2) W := by kernel_rfl
theorem idx_3 (a0 a1 a2 a3 a4 a5 : Int) (W : World) : (Instr.index 44 (.agg #[.int .i64 a0, .int .i64 a1, .int .i64 a2, .int .i64 a3, .int .i64 a4, .int .i64 a5]) (.int .i64 3)).run Try.prog W = .ok (.int .i64 a3) W := by kernel_rfl
theorem idx_4 (a0 a1 a2 a3 a4 a5 : Int) (W : World) : (Instr.index 44 (.agg #[.int .i64 a0, .int .i64 a1, .int .i64 a2, .int .i64 a3, .int .i64 a4, .int .i64 a5]) (.int .i64 4)).run Try.prog W = .ok (.int .i64 a4) W := by kernel_rfl
theorem idx_5 (a0 a1 a2 a3 a4 a5 : Int) (W : World) : (Instr.index 44 (.agg #[.int .i64 a0, .int .i64 a1, .int .i64 a2, .int .i64 a3, .int .i64 a4, .int .i64 a5]) (.int .i64 5)).run Try.prog W = .ok (.int .i64 a5) W := by kernel_rfl
set_option maxHeartbeats 8000000 in
set_option maxRecDepth 100000 in
theorem put_msg {w : World} (m : S32) {A10 : Option Addr} {c10 : Nat} {A11 : Option Addr} {c11 : Nat} (hr10 : Kd.C k48 w A10 m.f10.length m.f10) (hc10 : m.f10.length ≤ c10) (hr11 : Kd.C (Kd.int .u8) w A11 m.f11.length m.f11) (hc11 : m.f11.length ≤ c11) :
    Calls Try.prog 4 #[.agg #[.int .i64 m.f0, .int .i64 m.f1, .int .i64 m.f2, .int .i64 m.f3, .int .i64 m.f4, .int .i64 m.f5, .int .i64 m.f6, .int .i64 m.f7, .int .i64 m.f8, .bool m.f9, .slice A10 m.f10.length c10, .slice A11 m.f11.length c11]] w fun r w' => Below w.heap.size w w' ∧ ((∃ er : Int, er ≠ 0 ∧ r = .returned (.tuple #[.slice none 0 0, .int .i64 er])) ∨ (wfM m ∧ ∃ v, r = .returned (.tuple #[v, .int .i64 0]) ∧ Kd.R (Kd.int .u8) 5 w' w.heap.size (fun _ => True) v (encM m))) := by
  obtain ⟨f0, f1, f2, f3, f4, f5, f6, f7, f8, f9, f10, f11⟩ := m
  simp only at hr10 hc10 hr11 hc11 ⊢
  have HR10 := Aside0.mk hr10
  have HC10 := Aside0.mk hc10
  have HR11 := Aside0.mk hr11
  have HC11 := Aside0.mk hc11
  have HLC := Aside0.mk hr10.2.1
  have HB := Aside0.mk (Below.refl w.heap.size w)
  have hu := Try.underlying32
  clear hr10 hc10 hr11 hc11
  go_enter Try.func4, Try.ntmps4
  go_upto_region 1 with ((with_reducible refine gate_dst (N := 1) rfl ?_); refine box_event ?hg (N := 1) ?hd (cs := #[.int .i64 f0, .int .i64 f1, .int .i64 f2, .int .i64 f3, .int .i64 f4, .int .i64 f5, .int .i64 f6, .int .i64 f7, .int .i64 f8, .bool f9, .slice A10 f10.length c10, .slice A11 f11.length c11]) (t := 32) ?hr ?_; (case hd => rfl); (case hg => rfl); (case hr => first | (go_simp; done) | (go_simp; rfl)); intro gm hg w1 hbox hb; have G_gm := Aside0.mk (by rw [hg]; exact HB.out.size : w.heap.size ≤ gm); have H_gm := Aside0.mk hbox; have n0_ := Aside0.mk (below_then HB.out HB.out.size hb); clear HB hb hbox hg; have HB := n0_; clear n0_)
  go_cut [4] (fun v4 wc => ∃ b : Bool, v4 = .bool b ∧ Aside0 (b = false → okHead f0 f1 f2) ∧ Aside0 (wc.heap[gm]? = some (.cells #[.int .i64 f0, .int .i64 f1, .int .i64 f2, .int .i64 f3, .int .i64 f4, .int .i64 f5, .int .i64 f6, .int .i64 f7, .int .i64 f8, .bool f9, .slice A10 f10.length c10, .slice A11 f11.length c11] 32 (0, 0))) ∧ Aside0 (Below w.heap.size w wc))
  case first =>
    have k0 : w1.cell? ⟨gm, 0, none⟩ = some (.int .i64 f0) := (blk_cell H_gm.out 0).trans rfl
    have k1 : w1.cell? ⟨gm, 1, none⟩ = some (.int .i64 f1) := (blk_cell H_gm.out 1).trans rfl
    have k2 : w1.cell? ⟨gm, 2, none⟩ = some (.int .i64 f2) := (blk_cell H_gm.out 2).trans rfl
    rcases Bool.eq_false_or_eq_true (inB f0 1 7) with h | h
    · have T_f0 := Aside0.mk (inB_true h)
      rcases Bool.eq_false_or_eq_true (inB f1 1 9) with h | h
      · have T_f1 := Aside0.mk (inB_true h)
        rcases Bool.eq_false_or_eq_true (inB f2 1 9) with h | h
        · have T_f2 := Aside0.mk (inB_true h)
          go_wp2_with (go_at_call 10; refine (wire_in.calls _ _ _ _ _ (in_is _ _ _)).mono ?_; rintro e w' ⟨rfl, ⟨nd, rfl⟩⟩)
          go_meet
          case rel => exact ⟨false, rfl, ⟨fun _ => ⟨T_f0.out, T_f1.out, T_f2.out⟩⟩, ⟨(by (with_reducible repeat (first | refine blk_drewN ?_ _ | refine blk_drew ?_ | refine blk_alloc ?_ _)); exact H_gm.out)⟩, ⟨(by repeat (first | (with_reducible first | exact HB.out | apply below_alloc | apply pw_below_drewN | apply below_drew1) | exact HB.out))⟩⟩
        · skip
          go_wp2_with (go_at_call 10; refine (wire_in.calls _ _ _ _ _ (in_is _ _ _)).mono ?_; rintro e w' ⟨rfl, ⟨nd, rfl⟩⟩)
          go_meet
          case rel => exact ⟨true, rfl, ⟨fun h_ => absurd h_ (by decide)⟩, ⟨(by (with_reducible repeat (first | refine blk_drewN ?_ _ | refine blk_drew ?_ | refine blk_alloc ?_ _)); exact H_gm.out)⟩, ⟨(by repeat (first | (with_reducible first | exact HB.out | apply below_alloc | apply pw_below_drewN | apply below_drew1) | exact HB.out))⟩⟩
      · skip
        go_wp2_with (go_at_call 10; refine (wire_in.calls _ _ _ _ _ (in_is _ _ _)).mono ?_; rintro e w' ⟨rfl, ⟨nd, rfl⟩⟩)
        go_meet
        case rel => exact ⟨true, rfl, ⟨fun h_ => absurd h_ (by decide)⟩, ⟨(by (with_reducible repeat (first | refine blk_drewN ?_ _ | refine blk_drew ?_ | refine blk_alloc ?_ _)); exact H_gm.out)⟩, ⟨(by repeat (first | (with_reducible first | exact HB.out | apply below_alloc | apply pw_below_drewN | apply below_drew1) | exact HB.out))⟩⟩
    · skip
      go_wp2_with (go_at_call 10; refine (wire_in.calls _ _ _ _ _ (in_is _ _ _)).mono ?_; rintro e w' ⟨rfl, ⟨nd, rfl⟩⟩)
      go_meet
      case rel => exact ⟨true, rfl, ⟨fun h_ => absurd h_ (by decide)⟩, ⟨(by (with_reducible repeat (first | refine blk_drewN ?_ _ | refine blk_drew ?_ | refine blk_alloc ?_ _)); exact H_gm.out)⟩, ⟨(by repeat (first | (with_reducible first | exact HB.out | apply below_alloc | apply pw_below_drewN | apply below_drew1) | exact HB.out))⟩⟩
  case rest =>
    clear H_gm HB
    obtain ⟨b1, rfl, HO1, H_gm, HB⟩ := hcut
    go_upto_region 2 with (fail)
    go_cut [5] (fun v5 wc => ∃ b : Bool, v5 = .bool b ∧ Aside0 (b = false → f10.length ≤ 8 ∧ f11.length ≤ 32768) ∧ Aside0 (wc.heap[gm]? = some (.cells #[.int .i64 f0, .int .i64 f1, .int .i64 f2, .int .i64 f3, .int .i64 f4, .int .i64 f5, .int .i64 f6, .int .i64 f7, .int .i64 f8, .bool f9, .slice A10 f10.length c10, .slice A11 f11.length c11] 32 (0, 0))) ∧ Aside0 (Below w.heap.size w wc))
    case first =>
      have k10 : wc.cell? ⟨gm, 10, none⟩ = some (.slice A10 f10.length c10) := (blk_cell H_gm.out 10).trans rfl
      have k11 : wc.cell? ⟨gm, 11, none⟩ = some (.slice A11 f11.length c11) := (blk_cell H_gm.out 11).trans rfl
      by_cases h1 : f10.length ≤ 8
      · have T1 := Aside0.mk h1
        have c1 : decide (8 < (f10.length : Int)) = false := decide_eq_false (by omega)
        have c1n : decide (8 < f10.length) = false := decide_eq_false (by omega)
        clear h1
        by_cases h2 : f11.length ≤ 32768
        · have T2 := Aside0.mk h2
          have c2 : decide (32768 < (f11.length : Int)) = false := decide_eq_false (by omega)
          have c2n : decide (32768 < f11.length) = false := decide_eq_false (by omega)
          clear h2
          go_wp2
          go_meet
          case rel => exact ⟨false, rfl, ⟨fun _ => ⟨T1.out, T2.out⟩⟩, ⟨(by (with_reducible repeat (first | refine blk_drewN ?_ _ | refine blk_drew ?_ | refine blk_alloc ?_ _)); exact H_gm.out)⟩, ⟨(by repeat (first | (with_reducible first | exact HB.out | apply below_alloc | apply pw_below_drewN | apply below_drew1) | exact HB.out))⟩⟩
        · have c2 : decide (32768 < (f11.length : Int)) = true := decide_eq_true (by omega)
          have c2n : decide (32768 < f11.length) = true := decide_eq_true (by omega)
          clear h2
          go_wp2
          go_meet
          case rel => exact ⟨true, rfl, ⟨fun h_ => absurd h_ (by decide)⟩, ⟨(by (with_reducible repeat (first | refine blk_drewN ?_ _ | refine blk_drew ?_ | refine blk_alloc ?_ _)); exact H_gm.out)⟩, ⟨(by repeat (first | (with_reducible first | exact HB.out | apply below_alloc | apply pw_below_drewN | apply below_drew1) | exact HB.out))⟩⟩
      · have c1 : decide (8 < (f10.length : Int)) = true := decide_eq_true (by omega)
        have c1n : decide (8 < f10.length) = true := decide_eq_true (by omega)
        clear h1
        go_wp2
        go_meet
        case rel => exact ⟨true, rfl, ⟨fun h_ => absurd h_ (by decide)⟩, ⟨(by (with_reducible repeat (first | refine blk_drewN ?_ _ | refine blk_drew ?_ | refine blk_alloc ?_ _)); exact H_gm.out)⟩, ⟨(by repeat (first | (with_reducible first | exact HB.out | apply below_alloc | apply pw_below_drewN | apply below_drew1) | exact HB.out))⟩⟩
    case rest =>
      clear H_gm HB
      obtain ⟨b2, rfl, HO2, H_gm, HB⟩ := hcut
      go_wp2_with (first | ((with_reducible refine gate_dst (N := 43) rfl ?_); refine wpList_load_row rfl 32 (.tmp 1) rfl gm rfl 32 #[.int .i64 f0, .int .i64 f1, .int .i64 f2, .int .i64 f3, .int .i64 f4, .int .i64 f5, .int .i64 f6, .int .i64 f7, .int .i64 f8, .bool f9, .slice A10 f10.length c10, .slice A11 f11.length c11] (0, 0) _ H_gm.out Try.underlying32 rfl (by kernel_rfl) ?_; simp only [Act.put, List.setIfInBounds_toArray, List.set_cons_zero, List.set_cons_succ]) | (go_at_call 11; refine (wire_numbers.calls f0 f1 f2 f3 f4 f5 f6 f7 f8 f9 A10 c10 f10 A11 c11 f11 f3 f4 f5 f6 f7 f8 _ (Kd.C_below HR10.out (by repeat (first | (with_reducible first | exact HB.out | apply below_alloc | apply pw_below_drewN | apply below_drew1) | exact HB.out))) HC10.out (Kd.C_below HR11.out (by repeat (first | (with_reducible first | exact HB.out | apply below_alloc | apply pw_below_drewN | apply below_drew1) | exact HB.out))) HC11.out rfl).mono ?_; rintro e w3 ⟨rfl, hb⟩; have n0_ := Aside0.mk (blk_below (by (with_reducible repeat (first | refine blk_drewN ?_ _ | refine blk_drew ?_ | refine blk_alloc ?_ _)); exact H_gm.out) hb); have n1_ := Aside0.mk (below_step (by repeat (first | (with_reducible first | exact HB.out | apply below_alloc | apply pw_below_drewN | apply below_drew1) | exact HB.out)) hb); clear H_gm HB hb; have H_gm := n0_; have HB := n1_; clear n0_ n1_))
      go_loopg [4, 45] 6 (fun n v4 v45 W => ∃ (i : Nat) (b : Bool), v4 = .bool b ∧ v45 = .int .i64 (i : Int) ∧ Aside0 (n + i = 6) ∧ Aside0 (b = false → okHead f0 f1 f2 ∧ okN i f3 f4 f5 f6 f7 f8) ∧ Aside0 (W.heap[gm]? = some (.cells #[.int .i64 f0, .int .i64 f1, .int .i64 f2, .int .i64 f3, .int .i64 f4, .int .i64 f5, .int .i64 f6, .int .i64 f7, .int .i64 f8, .bool f9, .slice A10 f10.length c10, .slice A11 f11.length c11] 32 (0, 0))) ∧ Aside0 (Below w.heap.size w W))
      case atStart => exact ⟨0, b1, rfl, rfl, ⟨rfl⟩, ⟨fun h => ⟨HO1.out h, by simp [okN]⟩⟩, H_gm, HB⟩
      case round =>
        clear H_gm HB
        obtain ⟨i, b, rfl, rfl, HI, HOK, H_gm, HB⟩ := hrel
        obtain h | h | h | h | h | h | h := (by have := HI.out; omega : i = 0 ∨ i = 1 ∨ i = 2 ∨ i = 3 ∨ i = 4 ∨ i = 5 ∨ i = 6)
        · subst h
          obtain rfl : gk = 6 := by have := HI.out; omega
          clear HI
          have hix := idx_0 f3 f4 f5 f6 f7 f8
          cases b
          · rcases Bool.eq_false_or_eq_true (inB f3 0 1099511627776) with h | h
            · have T := Aside0.mk (inB_true h)
              go_wp2_with (go_at_call 10; refine (wire_in.calls _ _ _ _ _ (in_is _ _ _)).mono ?_; rintro e w' ⟨rfl, ⟨nd, rfl⟩⟩)
              go_roundg 5
              case measure => omega
              case rel => exact ⟨1, false, rfl, rfl, ⟨rfl⟩, ⟨fun _ => by have hh := HOK.out (by first | rfl | trivial | simp); exact ⟨hh.1, fun _ => T.out, fun h_ => absurd h_ (by omega), fun h_ => absurd h_ (by omega), fun h_ => absurd h_ (by omega), fun h_ => absurd h_ (by omega), fun h_ => absurd h_ (by omega)⟩⟩, ⟨(by (with_reducible repeat (first | refine blk_drewN ?_ _ | refine blk_drew ?_ | refine blk_alloc ?_ _)); exact H_gm.out)⟩, ⟨(by repeat (first | (with_reducible first | exact HB.out | apply below_alloc | apply pw_below_drewN | apply below_drew1) | exact HB.out))⟩⟩
            · skip
              go_wp2_with (go_at_call 10; refine (wire_in.calls _ _ _ _ _ (in_is _ _ _)).mono ?_; rintro e w' ⟨rfl, ⟨nd, rfl⟩⟩)
              go_roundg 5
              case measure => omega
              case rel => exact ⟨1, true, rfl, rfl, ⟨rfl⟩, ⟨fun h_ => absurd h_ (by decide)⟩, ⟨(by (with_reducible repeat (first | refine blk_drewN ?_ _ | refine blk_drew ?_ | refine blk_alloc ?_ _)); exact H_gm.out)⟩, ⟨(by repeat (first | (with_reducible first | exact HB.out | apply below_alloc | apply pw_below_drewN | apply below_drew1) | exact HB.out))⟩⟩
          · skip
            go_wp2_with (go_at_call 10; refine (wire_in.calls _ _ _ _ _ (in_is _ _ _)).mono ?_; rintro e w' ⟨rfl, ⟨nd, rfl⟩⟩)
            go_roundg 5
            case measure => omega
            case rel => exact ⟨1, true, rfl, rfl, ⟨rfl⟩, ⟨fun h_ => absurd h_ (by decide)⟩, ⟨(by (with_reducible repeat (first | refine blk_drewN ?_ _ | refine blk_drew ?_ | refine blk_alloc ?_ _)); exact H_gm.out)⟩, ⟨(by repeat (first | (with_reducible first | exact HB.out | apply below_alloc | apply pw_below_drewN | apply below_drew1) | exact HB.out))⟩⟩
        · subst h
          obtain rfl : gk = 5 := by have := HI.out; omega
          clear HI
          have hix := idx_1 f3 f4 f5 f6 f7 f8
          cases b
          · rcases Bool.eq_false_or_eq_true (inB f4 0 1099511627776) with h | h
            · have T := Aside0.mk (inB_true h)
              go_wp2_with (go_at_call 10; refine (wire_in.calls _ _ _ _ _ (in_is _ _ _)).mono ?_; rintro e w' ⟨rfl, ⟨nd, rfl⟩⟩)
              go_roundg 4
              case measure => omega
              case rel => exact ⟨2, false, rfl, rfl, ⟨rfl⟩, ⟨fun _ => by have hh := HOK.out (by first | rfl | trivial | simp); exact ⟨hh.1, fun h_ => hh.2.1 (by omega), fun _ => T.out, fun h_ => absurd h_ (by omega), fun h_ => absurd h_ (by omega), fun h_ => absurd h_ (by omega), fun h_ => absurd h_ (by omega)⟩⟩, ⟨(by (with_reducible repeat (first | refine blk_drewN ?_ _ | refine blk_drew ?_ | refine blk_alloc ?_ _)); exact H_gm.out)⟩, ⟨(by repeat (first | (with_reducible first | exact HB.out | apply below_alloc | apply pw_below_drewN | apply below_drew1) | exact HB.out))⟩⟩
            · skip
              go_wp2_with (go_at_call 10; refine (wire_in.calls _ _ _ _ _ (in_is _ _ _)).mono ?_; rintro e w' ⟨rfl, ⟨nd, rfl⟩⟩)
              go_roundg 4
              case measure => omega
              case rel => exact ⟨2, true, rfl, rfl, ⟨rfl⟩, ⟨fun h_ => absurd h_ (by decide)⟩, ⟨(by (with_reducible repeat (first | refine blk_drewN ?_ _ | refine blk_drew ?_ | refine blk_alloc ?_ _)); exact H_gm.out)⟩, ⟨(by repeat (first | (with_reducible first | exact HB.out | apply below_alloc | apply pw_below_drewN | apply below_drew1) | exact HB.out))⟩⟩
          · skip
            go_wp2_with (go_at_call 10; refine (wire_in.calls _ _ _ _ _ (in_is _ _ _)).mono ?_; rintro e w' ⟨rfl, ⟨nd, rfl⟩⟩)
            go_roundg 4
            case measure => omega
            case rel => exact ⟨2, true, rfl, rfl, ⟨rfl⟩, ⟨fun h_ => absurd h_ (by decide)⟩, ⟨(by (with_reducible repeat (first | refine blk_drewN ?_ _ | refine blk_drew ?_ | refine blk_alloc ?_ _)); exact H_gm.out)⟩, ⟨(by repeat (first | (with_reducible first | exact HB.out | apply below_alloc | apply pw_below_drewN | apply below_drew1) | exact HB.out))⟩⟩
        · subst h
          obtain rfl : gk = 4 := by have := HI.out; omega
          clear HI
          have hix := idx_2 f3 f4 f5 f6 f7 f8
          cases b
          · rcases Bool.eq_false_or_eq_true (inB f5 0 1099511627776) with h | h
            · have T := Aside0.mk (inB_true h)
              go_wp2_with (go_at_call 10; refine (wire_in.calls _ _ _ _ _ (in_is _ _ _)).mono ?_; rintro e w' ⟨rfl, ⟨nd, rfl⟩⟩)
              go_roundg 3
              case measure => omega
              case rel => exact ⟨3, false, rfl, rfl, ⟨rfl⟩, ⟨fun _ => by have hh := HOK.out (by first | rfl | trivial | simp); exact ⟨hh.1, fun h_ => hh.2.1 (by omega), fun h_ => hh.2.2.1 (by omega), fun _ => T.out, fun h_ => absurd h_ (by omega), fun h_ => absurd h_ (by omega), fun h_ => absurd h_ (by omega)⟩⟩, ⟨(by (with_reducible repeat (first | refine blk_drewN ?_ _ | refine blk_drew ?_ | refine blk_alloc ?_ _)); exact H_gm.out)⟩, ⟨(by repeat (first | (with_reducible first | exact HB.out | apply below_alloc | apply pw_below_drewN | apply below_drew1) | exact HB.out))⟩⟩
            · skip
              go_wp2_with (go_at_call 10; refine (wire_in.calls _ _ _ _ _ (in_is _ _ _)).mono ?_; rintro e w' ⟨rfl, ⟨nd, rfl⟩⟩)
              go_roundg 3
              case measure => omega
              case rel => exact ⟨3, true, rfl, rfl, ⟨rfl⟩, ⟨fun h_ => absurd h_ (by decide)⟩, ⟨(by (with_reducible repeat (first | refine blk_drewN ?_ _ | refine blk_drew ?_ | refine blk_alloc ?_ _)); exact H_gm.out)⟩, ⟨(by repeat (first | (with_reducible first | exact HB.out | apply below_alloc | apply pw_below_drewN | apply below_drew1) | exact HB.out))⟩⟩
          · skip
            go_wp2_with (go_at_call 10; refine (wire_in.calls _ _ _ _ _ (in_is _ _ _)).mono ?_; rintro e w' ⟨rfl, ⟨nd, rfl⟩⟩)
            go_roundg 3
            case measure => omega
            case rel => exact ⟨3, true, rfl, rfl, ⟨rfl⟩, ⟨fun h_ => absurd h_ (by decide)⟩, ⟨(by (with_reducible repeat (first | refine blk_drewN ?_ _ | refine blk_drew ?_ | refine blk_alloc ?_ _)); exact H_gm.out)⟩, ⟨(by repeat (first | (with_reducible first | exact HB.out | apply below_alloc | apply pw_below_drewN | apply below_drew1) | exact HB.out))⟩⟩
        · subst h
          obtain rfl : gk = 3 := by have := HI.out; omega
          clear HI
          have hix := idx_3 f3 f4 f5 f6 f7 f8
          cases b
          · rcases Bool.eq_false_or_eq_true (inB f6 0 1099511627776) with h | h
            · have T := Aside0.mk (inB_true h)
              go_wp2_with (go_at_call 10; refine (wire_in.calls _ _ _ _ _ (in_is _ _ _)).mono ?_; rintro e w' ⟨rfl, ⟨nd, rfl⟩⟩)
              go_roundg 2
              case measure => omega
              case rel => exact ⟨4, false, rfl, rfl, ⟨rfl⟩, ⟨fun _ => by have hh := HOK.out (by first | rfl | trivial | simp); exact ⟨hh.1, fun h_ => hh.2.1 (by omega), fun h_ => hh.2.2.1 (by omega), fun h_ => hh.2.2.2.1 (by omega), fun _ => T.out, fun h_ => absurd h_ (by omega), fun h_ => absurd h_ (by omega)⟩⟩, ⟨(by (with_reducible repeat (first | refine blk_drewN ?_ _ | refine blk_drew ?_ | refine blk_alloc ?_ _)); exact H_gm.out)⟩, ⟨(by repeat (first | (with_reducible first | exact HB.out | apply below_alloc | apply pw_below_drewN | apply below_drew1) | exact HB.out))⟩⟩
            · skip
              go_wp2_with (go_at_call 10; refine (wire_in.calls _ _ _ _ _ (in_is _ _ _)).mono ?_; rintro e w' ⟨rfl, ⟨nd, rfl⟩⟩)
              go_roundg 2
              case measure => omega
              case rel => exact ⟨4, true, rfl, rfl, ⟨rfl⟩, ⟨fun h_ => absurd h_ (by decide)⟩, ⟨(by (with_reducible repeat (first | refine blk_drewN ?_ _ | refine blk_drew ?_ | refine blk_alloc ?_ _)); exact H_gm.out)⟩, ⟨(by repeat (first | (with_reducible first | exact HB.out | apply below_alloc | apply pw_below_drewN | apply below_drew1) | exact HB.out))⟩⟩
          · skip
            go_wp2_with (go_at_call 10; refine (wire_in.calls _ _ _ _ _ (in_is _ _ _)).mono ?_; rintro e w' ⟨rfl, ⟨nd, rfl⟩⟩)
            go_roundg 2
            case measure => omega
            case rel => exact ⟨4, true, rfl, rfl, ⟨rfl⟩, ⟨fun h_ => absurd h_ (by decide)⟩, ⟨(by (with_reducible repeat (first | refine blk_drewN ?_ _ | refine blk_drew ?_ | refine blk_alloc ?_ _)); exact H_gm.out)⟩, ⟨(by repeat (first | (with_reducible first | exact HB.out | apply below_alloc | apply pw_below_drewN | apply below_drew1) | exact HB.out))⟩⟩
        · subst h
          obtain rfl : gk = 2 := by have := HI.out; omega
          clear HI
          have hix := idx_4 f3 f4 f5 f6 f7 f8
          cases b
          · rcases Bool.eq_false_or_eq_true (inB f7 0 1099511627776) with h | h
            · have T := Aside0.mk (inB_true h)
              go_wp2_with (go_at_call 10; refine (wire_in.calls _ _ _ _ _ (in_is _ _ _)).mono ?_; rintro e w' ⟨rfl, ⟨nd, rfl⟩⟩)
              go_roundg 1
              case measure => omega
              case rel => exact ⟨5, false, rfl, rfl, ⟨rfl⟩, ⟨fun _ => by have hh := HOK.out (by first | rfl | trivial | simp); exact ⟨hh.1, fun h_ => hh.2.1 (by omega), fun h_ => hh.2.2.1 (by omega), fun h_ => hh.2.2.2.1 (by omega), fun h_ => hh.2.2.2.2.1 (by omega), fun _ => T.out, fun h_ => absurd h_ (by omega)⟩⟩, ⟨(by (with_reducible repeat (first | refine blk_drewN ?_ _ | refine blk_drew ?_ | refine blk_alloc ?_ _)); exact H_gm.out)⟩, ⟨(by repeat (first | (with_reducible first | exact HB.out | apply below_alloc | apply pw_below_drewN | apply below_drew1) | exact HB.out))⟩⟩
            · skip
              go_wp2_with (go_at_call 10; refine (wire_in.calls _ _ _ _ _ (in_is _ _ _)).mono ?_; rintro e w' ⟨rfl, ⟨nd, rfl⟩⟩)
              go_roundg 1
              case measure => omega
              case rel => exact ⟨5, true, rfl, rfl, ⟨rfl⟩, ⟨fun h_ => absurd h_ (by decide)⟩, ⟨(by (with_reducible repeat (first | refine blk_drewN ?_ _ | refine blk_drew ?_ | refine blk_alloc ?_ _)); exact H_gm.out)⟩, ⟨(by repeat (first | (with_reducible first | exact HB.out | apply below_alloc | apply pw_below_drewN | apply below_drew1) | exact HB.out))⟩⟩
          · skip
            go_wp2_with (go_at_call 10; refine (wire_in.calls _ _ _ _ _ (in_is _ _ _)).mono ?_; rintro e w' ⟨rfl, ⟨nd, rfl⟩⟩)
            go_roundg 1
            case measure => omega
            case rel => exact ⟨5, true, rfl, rfl, ⟨rfl⟩, ⟨fun h_ => absurd h_ (by decide)⟩, ⟨(by (with_reducible repeat (first | refine blk_drewN ?_ _ | refine blk_drew ?_ | refine blk_alloc ?_ _)); exact H_gm.out)⟩, ⟨(by repeat (first | (with_reducible first | exact HB.out | apply below_alloc | apply pw_below_drewN | apply below_drew1) | exact HB.out))⟩⟩
        · subst h
          obtain rfl : gk = 1 := by have := HI.out; omega
          clear HI
          have hix := idx_5 f3 f4 f5 f6 f7 f8
          cases b
          · rcases Bool.eq_false_or_eq_true (inB f8 0 1099511627776) with h | h
            · have T := Aside0.mk (inB_true h)
              go_wp2_with (go_at_call 10; refine (wire_in.calls _ _ _ _ _ (in_is _ _ _)).mono ?_; rintro e w' ⟨rfl, ⟨nd, rfl⟩⟩)
              go_roundg 0
              case measure => omega
              case rel => exact ⟨6, false, rfl, rfl, ⟨rfl⟩, ⟨fun _ => by have hh := HOK.out (by first | rfl | trivial | simp); exact ⟨hh.1, fun h_ => hh.2.1 (by omega), fun h_ => hh.2.2.1 (by omega), fun h_ => hh.2.2.2.1 (by omega), fun h_ => hh.2.2.2.2.1 (by omega), fun h_ => hh.2.2.2.2.2.1 (by omega), fun _ => T.out⟩⟩, ⟨(by (with_reducible repeat (first | refine blk_drewN ?_ _ | refine blk_drew ?_ | refine blk_alloc ?_ _)); exact H_gm.out)⟩, ⟨(by repeat (first | (with_reducible first | exact HB.out | apply below_alloc | apply pw_below_drewN | apply below_drew1) | exact HB.out))⟩⟩
            · skip
              go_wp2_with (go_at_call 10; refine (wire_in.calls _ _ _ _ _ (in_is _ _ _)).mono ?_; rintro e w' ⟨rfl, ⟨nd, rfl⟩⟩)
              go_roundg 0
              case measure => omega
              case rel => exact ⟨6, true, rfl, rfl, ⟨rfl⟩, ⟨fun h_ => absurd h_ (by decide)⟩, ⟨(by (with_reducible repeat (first | refine blk_drewN ?_ _ | refine blk_drew ?_ | refine blk_alloc ?_ _)); exact H_gm.out)⟩, ⟨(by repeat (first | (with_reducible first | exact HB.out | apply below_alloc | apply pw_below_drewN | apply below_drew1) | exact HB.out))⟩⟩
          · skip
            go_wp2_with (go_at_call 10; refine (wire_in.calls _ _ _ _ _ (in_is _ _ _)).mono ?_; rintro e w' ⟨rfl, ⟨nd, rfl⟩⟩)
            go_roundg 0
            case measure => omega
            case rel => exact ⟨6, true, rfl, rfl, ⟨rfl⟩, ⟨fun h_ => absurd h_ (by decide)⟩, ⟨(by (with_reducible repeat (first | refine blk_drewN ?_ _ | refine blk_drew ?_ | refine blk_alloc ?_ _)); exact H_gm.out)⟩, ⟨(by repeat (first | (with_reducible first | exact HB.out | apply below_alloc | apply pw_below_drewN | apply below_drew1) | exact HB.out))⟩⟩
        · subst h
          clear HI
          have k10 : wr.cell? ⟨gm, 10, none⟩ = some (.slice A10 f10.length c10) := (blk_cell H_gm.out 10).trans rfl
          go_wp2
          go_loopg [4, 5, 58] (f10.length + 1) (fun n v4 v5 v58 W => ∃ (i : Nat) (p q : Bool), v4 = .bool p ∧ v5 = .bool q ∧ v58 = .int .i64 (i : Int) ∧ Aside0 (n + i = f10.length + 1 ∧ i ≤ f10.length) ∧ Aside0 (p = false → q = false → okHead f0 f1 f2 ∧ okN 6 f3 f4 f5 f6 f7 f8 ∧ (f10.length ≤ 8 ∧ f11.length ≤ 32768) ∧ ∀ e ∈ f10.take i, wfE e) ∧ Aside0 (W.heap[gm]? = some (.cells #[.int .i64 f0, .int .i64 f1, .int .i64 f2, .int .i64 f3, .int .i64 f4, .int .i64 f5, .int .i64 f6, .int .i64 f7, .int .i64 f8, .bool f9, .slice A10 f10.length c10, .slice A11 f11.length c11] 32 (0, 0))) ∧ Aside0 (Below w.heap.size w W))
          case atStart => exact ⟨0, b, b2, rfl, rfl, rfl, ⟨by omega, by omega⟩, ⟨fun h1 h2 => ⟨(HOK.out h1).1, (HOK.out h1).2, HO2.out h2, by simp⟩⟩, H_gm, HB⟩
          case round =>
            clear H_gm HB
            obtain ⟨i, p, q, rfl, rfl, rfl, HI, HOK2, H_gm, HB⟩ := hrel
            rcases Nat.lt_or_ge i f10.length with hi | hi
            · skip
              have c1 : decide ((i : Int) < (f10.length : Int)) = true := decide_eq_true (by omega)
              have c1n : decide (i < f10.length) = true := decide_eq_true hi
              have hxx : rd_T48 f10 (i : Int) = f10[i] := by unfold rd_T48; rw [Int.toNat_natCast, List.getD_eq_getElem?_getD, List.getElem?_eq_getElem hi, Option.getD_some]
              obtain ⟨x, hx⟩ : ∃ x, x = f10[i] := ⟨_, rfl⟩
              rw [← hx] at hxx
              have HTK := Aside0.mk (show f10.take (i + 1) = f10.take i ++ [x] by rw [hx]; exact List.take_succ_eq_append_getElem hi)
              clear hx
              have p0 : (0 : Int) ≤ (i : Int) := by omega
              have p1 : (i : Int) < (f10.length : Int) := by omega
              obtain ⟨ad, A3, c3, hA, y0, y1, y2, y3, h3, hC3⟩ := at_T48 HR10.out (i : Int) p0 p1
              rw [hxx] at y0 y1 y2 y3 h3 hC3
              subst hA
              obtain ⟨x0, x1, x2, x3⟩ := x
              simp only at y0 y1 y2 y3 h3 hC3
              simp only [Int.toNat_natCast] at y0 y1 y2 y3
              replace y0 := pw_cell_below HB.out y0
              replace y1 := pw_cell_below HB.out y1
              replace y2 := pw_cell_below HB.out y2
              replace y3 := pw_cell_below HB.out y3
              replace p0 := eq_true p0
              replace p1 := eq_true p1
              have HC3 := Aside0.mk hC3
              have H3 := Aside0.mk h3
              have HLI := Aside0.mk hi
              clear hxx hC3 h3 hi
              go_upto_region 12 with (first | ((with_reducible refine gate_dst (N := 9) rfl ?_); refine box_event ?hg (N := 9) ?hd (cs := #[.int .i64 0, .int .i64 0, .int .i64 0, .slice none 0 0]) (t := 48) ?hr ?_; (case hd => rfl); (case hg => rfl); (case hr => first | (go_simp; done) | (go_simp; rfl)); intro ge hg w5 hbox hb; have H_ge := Aside0.mk hbox; have N_ge := Aside0.mk (Nat.ne_of_lt (by rw [hg]; exact blk_lt H_gm.out) : gm ≠ ge); have G_ge := Aside0.mk (by rw [hg]; exact HB.out.size : w.heap.size ≤ ge); have n0_ := Aside0.mk (blk_below H_gm.out hb); have n1_ := Aside0.mk (below_step HB.out hb); clear H_gm HB hb hbox hg; have H_gm := n0_; have HB := n1_; clear n0_ n1_; clear y0 y1 y2 y3) | ((with_reducible refine gate_store (t := 48) (p := 9) rfl ?_); (refine wpList_store_row rfl 48 (.tmp 9) (.tmp 61) rfl ge #[.int .i64 x0, .int .i64 x1, .int .i64 x2, .slice A3 x3.length c3] rfl rfl 48 #[.int .i64 0, .int .i64 0, .int .i64 0, .slice none 0 0] H_ge.out (by kernel_rfl) rfl (by simp [Value.oneCell']) ?_; have n0_ := Aside0.mk ((setRow_other w5 ge gm #[.int .i64 x0, .int .i64 x1, .int .i64 x2, .slice A3 x3.length c3] N_ge.out).trans H_gm.out); have n1_ := Aside0.mk (setRow_heap w5 ge _ #[.int .i64 x0, .int .i64 x1, .int .i64 x2, .slice A3 x3.length c3] 48 (0, 0) H_ge.out); have n2_ := Aside0.mk (below_setRow HB.out G_ge.out #[.int .i64 x0, .int .i64 x1, .int .i64 x2, .slice A3 x3.length c3]); clear H_gm H_ge HB; have H_gm := n0_; have H_ge := n1_; have HB := n2_; clear n0_ n1_ n2_; generalize w5.setRow ge #[.int .i64 x0, .int .i64 x1, .int .i64 x2, .slice A3 x3.length c3] = w6 at H_gm H_ge HB ⊢)) | ((with_reducible refine gate_dst (N := 63) rfl ?_); (refine wpList_load_row rfl 48 (.tmp 9) rfl ge rfl 48 #[.int .i64 x0, .int .i64 x1, .int .i64 x2, .slice A3 x3.length c3] (0, 0) _ H_ge.out Try.underlying48 rfl (by kernel_rfl) ?_; simp only [Act.put, List.setIfInBounds_toArray, List.set_cons_zero, List.set_cons_succ])) | (go_at_call 12; refine (wire_entry.calls x0 x1 x2 A3 c3 x3 _ _ _ (Kd.C_below HC3.out HB.out) H3.out (ent_is x0 x1 x2 x3)).mono ?_; rintro e w7 ⟨rfl, hb⟩; have n0_ := Aside0.mk (blk_below H_gm.out hb); have n1_ := Aside0.mk (below_step HB.out hb); clear H_gm HB hb; have H_gm := n0_; have HB := n1_; clear n0_ n1_))
              clear H_ge N_ge G_ge
              obtain ⟨a_, ha_⟩ : ∃ a_, a_ = entA x0 x1 x2 x3 := ⟨_, rfl⟩
              obtain ⟨l_, hl_⟩ : ∃ l_, l_ = entL x3 := ⟨_, rfl⟩
              rw [← ha_, ← hl_]
              have HA_ := Aside0.mk ha_
              have HL_ := Aside0.mk hl_
              clear ha_ hl_
              cases p <;> cases q <;> cases a_ <;> cases l_
              · go_wp2
                go_roundg (gk - 1)
                case measure => have := HI.out; have := HLI.out; omega
                case rel => exact ⟨i + 1, false, false, rfl, rfl, by rw [Go.Proofs.Ytaacjoeldgganaa.S.wr _ (by omega) (by have := HLI.out; have := HC10.out; have := HLC.out; omega)]; rfl, ⟨by have := HI.out; have := HLI.out; omega⟩, ⟨fun _ _ => by have hh := HOK2.out (by first | rfl | trivial | simp) (by first | rfl | trivial | simp); refine ⟨hh.1, hh.2.1, hh.2.2.1, fun e he => ?_⟩; rw [HTK.out] at he; rcases List.mem_append.1 he with he | he; exact hh.2.2.2 e he; rw [List.mem_singleton.1 he]; exact ent_ok HA_.out.symm HL_.out.symm⟩, ⟨(by (with_reducible repeat (first | refine blk_drewN ?_ _ | refine blk_drew ?_ | refine blk_alloc ?_ _)); exact H_gm.out)⟩, ⟨(by repeat (first | (with_reducible first | exact HB.out | apply below_alloc | apply pw_below_drewN | apply below_drew1) | exact HB.out))⟩⟩
              · go_wp2
                go_roundg (gk - 1)
                case measure => have := HI.out; have := HLI.out; omega
                case rel => exact ⟨i + 1, false, true, rfl, rfl, by rw [Go.Proofs.Ytaacjoeldgganaa.S.wr _ (by omega) (by have := HLI.out; have := HC10.out; have := HLC.out; omega)]; rfl, ⟨by have := HI.out; have := HLI.out; omega⟩, ⟨fun h1 h2 => absurd h2 (by decide)⟩, ⟨(by (with_reducible repeat (first | refine blk_drewN ?_ _ | refine blk_drew ?_ | refine blk_alloc ?_ _)); exact H_gm.out)⟩, ⟨(by repeat (first | (with_reducible first | exact HB.out | apply below_alloc | apply pw_below_drewN | apply below_drew1) | exact HB.out))⟩⟩
              · go_wp2
                go_roundg (gk - 1)
                case measure => have := HI.out; have := HLI.out; omega
                case rel => exact ⟨i + 1, true, false, rfl, rfl, by rw [Go.Proofs.Ytaacjoeldgganaa.S.wr _ (by omega) (by have := HLI.out; have := HC10.out; have := HLC.out; omega)]; rfl, ⟨by have := HI.out; have := HLI.out; omega⟩, ⟨fun h1 h2 => absurd h1 (by decide)⟩, ⟨(by (with_reducible repeat (first | refine blk_drewN ?_ _ | refine blk_drew ?_ | refine blk_alloc ?_ _)); exact H_gm.out)⟩, ⟨(by repeat (first | (with_reducible first | exact HB.out | apply below_alloc | apply pw_below_drewN | apply below_drew1) | exact HB.out))⟩⟩
              · go_wp2
                go_roundg (gk - 1)
                case measure => have := HI.out; have := HLI.out; omega
                case rel => exact ⟨i + 1, true, true, rfl, rfl, by rw [Go.Proofs.Ytaacjoeldgganaa.S.wr _ (by omega) (by have := HLI.out; have := HC10.out; have := HLC.out; omega)]; rfl, ⟨by have := HI.out; have := HLI.out; omega⟩, ⟨fun h1 h2 => absurd h1 (by decide)⟩, ⟨(by (with_reducible repeat (first | refine blk_drewN ?_ _ | refine blk_drew ?_ | refine blk_alloc ?_ _)); exact H_gm.out)⟩, ⟨(by repeat (first | (with_reducible first | exact HB.out | apply below_alloc | apply pw_below_drewN | apply below_drew1) | exact HB.out))⟩⟩
              · go_wp2
                go_roundg (gk - 1)
                case measure => have := HI.out; have := HLI.out; omega
                case rel => exact ⟨i + 1, false, true, rfl, rfl, by rw [Go.Proofs.Ytaacjoeldgganaa.S.wr _ (by omega) (by have := HLI.out; have := HC10.out; have := HLC.out; omega)]; rfl, ⟨by have := HI.out; have := HLI.out; omega⟩, ⟨fun h1 h2 => absurd h2 (by decide)⟩, ⟨(by (with_reducible repeat (first | refine blk_drewN ?_ _ | refine blk_drew ?_ | refine blk_alloc ?_ _)); exact H_gm.out)⟩, ⟨(by repeat (first | (with_reducible first | exact HB.out | apply below_alloc | apply pw_below_drewN | apply below_drew1) | exact HB.out))⟩⟩
              · go_wp2
                go_roundg (gk - 1)
                case measure => have := HI.out; have := HLI.out; omega
                case rel => exact ⟨i + 1, false, true, rfl, rfl, by rw [Go.Proofs.Ytaacjoeldgganaa.S.wr _ (by omega) (by have := HLI.out; have := HC10.out; have := HLC.out; omega)]; rfl, ⟨by have := HI.out; have := HLI.out; omega⟩, ⟨fun h1 h2 => absurd h2 (by decide)⟩, ⟨(by (with_reducible repeat (first | refine blk_drewN ?_ _ | refine blk_drew ?_ | refine blk_alloc ?_ _)); exact H_gm.out)⟩, ⟨(by repeat (first | (with_reducible first | exact HB.out | apply below_alloc | apply pw_below_drewN | apply below_drew1) | exact HB.out))⟩⟩
              · go_wp2
                go_roundg (gk - 1)
                case measure => have := HI.out; have := HLI.out; omega
                case rel => exact ⟨i + 1, true, true, rfl, rfl, by rw [Go.Proofs.Ytaacjoeldgganaa.S.wr _ (by omega) (by have := HLI.out; have := HC10.out; have := HLC.out; omega)]; rfl, ⟨by have := HI.out; have := HLI.out; omega⟩, ⟨fun h1 h2 => absurd h1 (by decide)⟩, ⟨(by (with_reducible repeat (first | refine blk_drewN ?_ _ | refine blk_drew ?_ | refine blk_alloc ?_ _)); exact H_gm.out)⟩, ⟨(by repeat (first | (with_reducible first | exact HB.out | apply below_alloc | apply pw_below_drewN | apply below_drew1) | exact HB.out))⟩⟩
              · go_wp2
                go_roundg (gk - 1)
                case measure => have := HI.out; have := HLI.out; omega
                case rel => exact ⟨i + 1, true, true, rfl, rfl, by rw [Go.Proofs.Ytaacjoeldgganaa.S.wr _ (by omega) (by have := HLI.out; have := HC10.out; have := HLC.out; omega)]; rfl, ⟨by have := HI.out; have := HLI.out; omega⟩, ⟨fun h1 h2 => absurd h1 (by decide)⟩, ⟨(by (with_reducible repeat (first | refine blk_drewN ?_ _ | refine blk_drew ?_ | refine blk_alloc ?_ _)); exact H_gm.out)⟩, ⟨(by repeat (first | (with_reducible first | exact HB.out | apply below_alloc | apply pw_below_drewN | apply below_drew1) | exact HB.out))⟩⟩
              · go_wp2
                go_roundg (gk - 1)
                case measure => have := HI.out; have := HLI.out; omega
                case rel => exact ⟨i + 1, true, false, rfl, rfl, by rw [Go.Proofs.Ytaacjoeldgganaa.S.wr _ (by omega) (by have := HLI.out; have := HC10.out; have := HLC.out; omega)]; rfl, ⟨by have := HI.out; have := HLI.out; omega⟩, ⟨fun h1 h2 => absurd h1 (by decide)⟩, ⟨(by (with_reducible repeat (first | refine blk_drewN ?_ _ | refine blk_drew ?_ | refine blk_alloc ?_ _)); exact H_gm.out)⟩, ⟨(by repeat (first | (with_reducible first | exact HB.out | apply below_alloc | apply pw_below_drewN | apply below_drew1) | exact HB.out))⟩⟩
              · go_wp2
                go_roundg (gk - 1)
                case measure => have := HI.out; have := HLI.out; omega
                case rel => exact ⟨i + 1, true, true, rfl, rfl, by rw [Go.Proofs.Ytaacjoeldgganaa.S.wr _ (by omega) (by have := HLI.out; have := HC10.out; have := HLC.out; omega)]; rfl, ⟨by have := HI.out; have := HLI.out; omega⟩, ⟨fun h1 h2 => absurd h1 (by decide)⟩, ⟨(by (with_reducible repeat (first | refine blk_drewN ?_ _ | refine blk_drew ?_ | refine blk_alloc ?_ _)); exact H_gm.out)⟩, ⟨(by repeat (first | (with_reducible first | exact HB.out | apply below_alloc | apply pw_below_drewN | apply below_drew1) | exact HB.out))⟩⟩
              · go_wp2
                go_roundg (gk - 1)
                case measure => have := HI.out; have := HLI.out; omega
                case rel => exact ⟨i + 1, true, false, rfl, rfl, by rw [Go.Proofs.Ytaacjoeldgganaa.S.wr _ (by omega) (by have := HLI.out; have := HC10.out; have := HLC.out; omega)]; rfl, ⟨by have := HI.out; have := HLI.out; omega⟩, ⟨fun h1 h2 => absurd h1 (by decide)⟩, ⟨(by (with_reducible repeat (first | refine blk_drewN ?_ _ | refine blk_drew ?_ | refine blk_alloc ?_ _)); exact H_gm.out)⟩, ⟨(by repeat (first | (with_reducible first | exact HB.out | apply below_alloc | apply pw_below_drewN | apply below_drew1) | exact HB.out))⟩⟩
              · go_wp2
                go_roundg (gk - 1)
                case measure => have := HI.out; have := HLI.out; omega
                case rel => exact ⟨i + 1, true, true, rfl, rfl, by rw [Go.Proofs.Ytaacjoeldgganaa.S.wr _ (by omega) (by have := HLI.out; have := HC10.out; have := HLC.out; omega)]; rfl, ⟨by have := HI.out; have := HLI.out; omega⟩, ⟨fun h1 h2 => absurd h1 (by decide)⟩, ⟨(by (with_reducible repeat (first | refine blk_drewN ?_ _ | refine blk_drew ?_ | refine blk_alloc ?_ _)); exact H_gm.out)⟩, ⟨(by repeat (first | (with_reducible first | exact HB.out | apply below_alloc | apply pw_below_drewN | apply below_drew1) | exact HB.out))⟩⟩
              · go_wp2
                go_roundg (gk - 1)
                case measure => have := HI.out; have := HLI.out; omega
                case rel => exact ⟨i + 1, true, true, rfl, rfl, by rw [Go.Proofs.Ytaacjoeldgganaa.S.wr _ (by omega) (by have := HLI.out; have := HC10.out; have := HLC.out; omega)]; rfl, ⟨by have := HI.out; have := HLI.out; omega⟩, ⟨fun h1 h2 => absurd h1 (by decide)⟩, ⟨(by (with_reducible repeat (first | refine blk_drewN ?_ _ | refine blk_drew ?_ | refine blk_alloc ?_ _)); exact H_gm.out)⟩, ⟨(by repeat (first | (with_reducible first | exact HB.out | apply below_alloc | apply pw_below_drewN | apply below_drew1) | exact HB.out))⟩⟩
              · go_wp2
                go_roundg (gk - 1)
                case measure => have := HI.out; have := HLI.out; omega
                case rel => exact ⟨i + 1, true, true, rfl, rfl, by rw [Go.Proofs.Ytaacjoeldgganaa.S.wr _ (by omega) (by have := HLI.out; have := HC10.out; have := HLC.out; omega)]; rfl, ⟨by have := HI.out; have := HLI.out; omega⟩, ⟨fun h1 h2 => absurd h1 (by decide)⟩, ⟨(by (with_reducible repeat (first | refine blk_drewN ?_ _ | refine blk_drew ?_ | refine blk_alloc ?_ _)); exact H_gm.out)⟩, ⟨(by repeat (first | (with_reducible first | exact HB.out | apply below_alloc | apply pw_below_drewN | apply below_drew1) | exact HB.out))⟩⟩
              · go_wp2
                go_roundg (gk - 1)
                case measure => have := HI.out; have := HLI.out; omega
                case rel => exact ⟨i + 1, true, true, rfl, rfl, by rw [Go.Proofs.Ytaacjoeldgganaa.S.wr _ (by omega) (by have := HLI.out; have := HC10.out; have := HLC.out; omega)]; rfl, ⟨by have := HI.out; have := HLI.out; omega⟩, ⟨fun h1 h2 => absurd h1 (by decide)⟩, ⟨(by (with_reducible repeat (first | refine blk_drewN ?_ _ | refine blk_drew ?_ | refine blk_alloc ?_ _)); exact H_gm.out)⟩, ⟨(by repeat (first | (with_reducible first | exact HB.out | apply below_alloc | apply pw_below_drewN | apply below_drew1) | exact HB.out))⟩⟩
              · go_wp2
                go_roundg (gk - 1)
                case measure => have := HI.out; have := HLI.out; omega
                case rel => exact ⟨i + 1, true, true, rfl, rfl, by rw [Go.Proofs.Ytaacjoeldgganaa.S.wr _ (by omega) (by have := HLI.out; have := HC10.out; have := HLC.out; omega)]; rfl, ⟨by have := HI.out; have := HLI.out; omega⟩, ⟨fun h1 h2 => absurd h1 (by decide)⟩, ⟨(by (with_reducible repeat (first | refine blk_drewN ?_ _ | refine blk_drew ?_ | refine blk_alloc ?_ _)); exact H_gm.out)⟩, ⟨(by repeat (first | (with_reducible first | exact HB.out | apply below_alloc | apply pw_below_drewN | apply below_drew1) | exact HB.out))⟩⟩
            · obtain rfl : i = f10.length := by have := HI.out; omega
              have c1 : decide ((f10.length : Int) < (f10.length : Int)) = false := decide_eq_false (by omega)
              have c1n : decide (f10.length < f10.length) = false := decide_eq_false (by omega)
              clear hi HI
              cases p
              · cases q
                · skip
                  have hh := HOK2.out (by first | rfl | trivial | simp) (by first | rfl | trivial | simp)
                  rw [List.take_length] at hh
                  have HWF := Aside0.mk (show wfM (⟨f0, f1, f2, f3, f4, f5, f6, f7, f8, f9, f10, f11⟩ : S32) from ⟨hh.1.1.1, hh.1.1.2, hh.1.2.1.1, hh.1.2.1.2, hh.1.2.2.1, hh.1.2.2.2, hh.2.1.1 (by omega), hh.2.1.2.1 (by omega), hh.2.1.2.2.1 (by omega), hh.2.1.2.2.2.1 (by omega), hh.2.1.2.2.2.2.1 (by omega), hh.2.1.2.2.2.2.2 (by omega), hh.2.2.1.1, hh.2.2.2, hh.2.2.1.2⟩)
                  clear hh HOK HOK2 HO1 HO2
                  have k0 : wr.cell? ⟨gm, 0, none⟩ = some (.int .i64 f0) := (blk_cell H_gm.out 0).trans rfl
                  have k1 : wr.cell? ⟨gm, 1, none⟩ = some (.int .i64 f1) := (blk_cell H_gm.out 1).trans rfl
                  have k2 : wr.cell? ⟨gm, 2, none⟩ = some (.int .i64 f2) := (blk_cell H_gm.out 2).trans rfl
                  go_upto_region 19 with (fail)
                  obtain ⟨gb, hgb⟩ : ∃ gb : Nat, gb = wr.heap.size := ⟨_, rfl⟩
                  rw [← hgb]
                  have N_gb := Aside0.mk (by rw [hgb]; exact Nat.ne_of_lt (blk_lt H_gm.out) : gm ≠ gb)
                  have G_gb := Aside0.mk (by rw [hgb]; exact HB.out.size : w.heap.size ≤ gb)
                  have H_gb := Aside0.mk (by rw [hgb]; exact blk_new wr _ : (wr.alloc (.cells #[.int .u8 (f0 % 256), .int .u8 (f1 % 256), .int .u8 (f2 % 256), .int .u8 0] 5 (0, 0))).heap[gb]? = some (.cells #[.int .u8 (f0 % 256), .int .u8 (f1 % 256), .int .u8 (f2 % 256), .int .u8 0] 5 (0, 0)))
                  have n0_ := Aside0.mk (blk_alloc H_gm.out (.cells #[.int .u8 (f0 % 256), .int .u8 (f1 % 256), .int .u8 (f2 % 256), .int .u8 0] 5 (0, 0)))
                  have n1_ := Aside0.mk (below_alloc HB.out (.cells #[.int .u8 (f0 % 256), .int .u8 (f1 % 256), .int .u8 (f2 % 256), .int .u8 0] 5 (0, 0)))
                  clear hgb H_gm HB k0 k1 k2
                  have H_gm := n0_
                  have HB := n1_
                  clear n0_ n1_
                  generalize wr.alloc (.cells #[.int .u8 (f0 % 256), .int .u8 (f1 % 256), .int .u8 (f2 % 256), .int .u8 0] 5 (0, 0)) = w30 at H_gb H_gm HB ⊢
                  have k9 : w30.cell? ⟨gm, 9, none⟩ = some (.bool f9) := (blk_cell H_gm.out 9).trans rfl
                  go_upto_if 91 with (fail)
                  clear k9
                  go_cut [92] (fun v92 wc => Aside0 (wc.heap[gb]? = some (.cells #[.int .u8 (f0 % 256), .int .u8 (f1 % 256), .int .u8 (f2 % 256), .int .u8 (if f9 then 1 else 0)] 5 (0, 0))) ∧ Aside0 (wc.heap[gm]? = some (.cells #[.int .i64 f0, .int .i64 f1, .int .i64 f2, .int .i64 f3, .int .i64 f4, .int .i64 f5, .int .i64 f6, .int .i64 f7, .int .i64 f8, .bool f9, .slice A10 f10.length c10, .slice A11 f11.length c11] 32 (0, 0))) ∧ Aside0 (Below w.heap.size w wc))
                  case first =>
                    have k3 : w30.cell? ⟨gb, 3, none⟩ = some (.int .u8 0) := (blk_cell H_gb.out 3).trans rfl
                    have u3 := blk_frozen H_gb.out 3
                    cases f9
                    · go_wp2
                      go_meet
                      case rel => exact ⟨H_gb, H_gm, HB⟩
                    · go_wp2
                      go_meet
                      case rel => exact ⟨⟨blk_put H_gb.out 3 (.int .u8 1) rfl⟩, ⟨blk_far (p := ⟨gb, 3, none⟩) H_gm.out N_gb.out (.int .u8 1)⟩, ⟨below_set (j := 3) (v := .int .u8 1) HB.out G_gb.out⟩⟩
                  case rest =>
                    clear H_gb H_gm HB
                    obtain ⟨H_gb, H_gm, HB⟩ := hcut
                    have HO := Aside0.mk (R_bytes H_gb.out G_gb.out)
                    clear H_gb
                    go_wp2_with (first | ((with_reducible refine gate_dst (N := 94) rfl ?_); refine wpList_load_row rfl 32 (.tmp 1) rfl gm rfl 32 #[.int .i64 f0, .int .i64 f1, .int .i64 f2, .int .i64 f3, .int .i64 f4, .int .i64 f5, .int .i64 f6, .int .i64 f7, .int .i64 f8, .bool f9, .slice A10 f10.length c10, .slice A11 f11.length c11] (0, 0) _ H_gm.out Try.underlying32 rfl (by kernel_rfl) ?_; simp only [Act.put, List.setIfInBounds_toArray, List.set_cons_zero, List.set_cons_succ]) | (go_at_call 11; (refine (wire_numbers.calls f0 f1 f2 f3 f4 f5 f6 f7 f8 f9 A10 c10 f10 A11 c11 f11 f3 f4 f5 f6 f7 f8 _ (Kd.C_below HR10.out HB.out) HC10.out (Kd.C_below HR11.out HB.out) HC11.out rfl).mono ?_; rintro e w31 ⟨rfl, hb⟩; have n0_ := Aside0.mk (blk_below H_gm.out hb); have n1_ := Aside0.mk (Kd.R_below HO.out hb); have n2_ := Aside0.mk (below_step HB.out hb); clear H_gm HO HB hb; have H_gm := n0_; have HO := n1_; have HB := n2_; clear n0_ n1_ n2_)))
                    go_loopg [12, 96] 6 (fun n v12 v96 W => ∃ (i : Nat) (A : Option Addr) (nl c : Nat), v12 = .slice A nl c ∧ v96 = .int .i64 (i : Int) ∧ Aside0 (n + i = 6) ∧ Aside0 (Kd.R (Kd.int .u8) 5 W w.heap.size (fun _ => True) (.slice A nl c) (pren i [f0 % 256, f1 % 256, f2 % 256, (if f9 then 1 else 0)] f3 f4 f5 f6 f7 f8)) ∧ Aside0 (W.heap[gm]? = some (.cells #[.int .i64 f0, .int .i64 f1, .int .i64 f2, .int .i64 f3, .int .i64 f4, .int .i64 f5, .int .i64 f6, .int .i64 f7, .int .i64 f8, .bool f9, .slice A10 f10.length c10, .slice A11 f11.length c11] 32 (0, 0))) ∧ Aside0 (Below w.heap.size w W))
                    case atStart => exact ⟨0, _, 4, 4, rfl, rfl, ⟨rfl⟩, HO, H_gm, HB⟩
                    case round =>
                      clear H_gm HB HO
                      obtain ⟨i, A, nl, c, rfl, rfl, HI, HO, H_gm, HB⟩ := hrel
                      obtain h | h | h | h | h | h | h := (by have := HI.out; omega : i = 0 ∨ i = 1 ∨ i = 2 ∨ i = 3 ∨ i = 4 ∨ i = 5 ∨ i = 6)
                      · subst h
                        obtain rfl : gk = 6 := by have := HI.out; omega
                        clear HI
                        have hix := idx_0 f3 f4 f5 f6 f7 f8
                        have HNS := Aside0.mk (num_step HB.out HO.out H_gm.out (n := f3) (HWF.out.2.2.2.2.2.2.1.1) (by have h_ : f3 ≤ 1099511627776 := HWF.out.2.2.2.2.2.2.1.2; omega) (by simp only [pren, List.length_append, List.length_cons, List.length_nil]; have l0_ := enc_len f3; have l1_ := enc_len f4; have l2_ := enc_len f5; have l3_ := enc_len f6; have l4_ := enc_len f7; have l5_ := enc_len f8; omega))
                        go_wp2_with (go_at_call 13; (refine HNS.out.mono ?_; rintro e w32 ⟨A2, nl2, c2, rfl, hR, hB2, hM⟩; have HO2 := Aside0.mk hR; have HB2 := Aside0.mk hB2; have HM2 := Aside0.mk hM; clear hR hB2 hM HNS))
                        go_roundg 5
                        case measure => omega
                        case rel => exact ⟨1, A2, nl2, c2, rfl, rfl, ⟨rfl⟩, HO2, HM2, HB2⟩
                      · subst h
                        obtain rfl : gk = 5 := by have := HI.out; omega
                        clear HI
                        have hix := idx_1 f3 f4 f5 f6 f7 f8
                        have HNS := Aside0.mk (num_step HB.out HO.out H_gm.out (n := f4) (HWF.out.2.2.2.2.2.2.2.1.1) (by have h_ : f4 ≤ 1099511627776 := HWF.out.2.2.2.2.2.2.2.1.2; omega) (by simp only [pren, List.length_append, List.length_cons, List.length_nil]; have l0_ := enc_len f3; have l1_ := enc_len f4; have l2_ := enc_len f5; have l3_ := enc_len f6; have l4_ := enc_len f7; have l5_ := enc_len f8; omega))
                        go_wp2_with (go_at_call 13; (refine HNS.out.mono ?_; rintro e w32 ⟨A2, nl2, c2, rfl, hR, hB2, hM⟩; have HO2 := Aside0.mk hR; have HB2 := Aside0.mk hB2; have HM2 := Aside0.mk hM; clear hR hB2 hM HNS))
                        go_roundg 4
                        case measure => omega
                        case rel => exact ⟨2, A2, nl2, c2, rfl, rfl, ⟨rfl⟩, HO2, HM2, HB2⟩
                      · subst h
                        obtain rfl : gk = 4 := by have := HI.out; omega
                        clear HI
                        have hix := idx_2 f3 f4 f5 f6 f7 f8
                        have HNS := Aside0.mk (num_step HB.out HO.out H_gm.out (n := f5) (HWF.out.2.2.2.2.2.2.2.2.1.1) (by have h_ : f5 ≤ 1099511627776 := HWF.out.2.2.2.2.2.2.2.2.1.2; omega) (by simp only [pren, List.length_append, List.length_cons, List.length_nil]; have l0_ := enc_len f3; have l1_ := enc_len f4; have l2_ := enc_len f5; have l3_ := enc_len f6; have l4_ := enc_len f7; have l5_ := enc_len f8; omega))
                        go_wp2_with (go_at_call 13; (refine HNS.out.mono ?_; rintro e w32 ⟨A2, nl2, c2, rfl, hR, hB2, hM⟩; have HO2 := Aside0.mk hR; have HB2 := Aside0.mk hB2; have HM2 := Aside0.mk hM; clear hR hB2 hM HNS))
                        go_roundg 3
                        case measure => omega
                        case rel => exact ⟨3, A2, nl2, c2, rfl, rfl, ⟨rfl⟩, HO2, HM2, HB2⟩
                      · subst h
                        obtain rfl : gk = 3 := by have := HI.out; omega
                        clear HI
                        have hix := idx_3 f3 f4 f5 f6 f7 f8
                        have HNS := Aside0.mk (num_step HB.out HO.out H_gm.out (n := f6) (HWF.out.2.2.2.2.2.2.2.2.2.1.1) (by have h_ : f6 ≤ 1099511627776 := HWF.out.2.2.2.2.2.2.2.2.2.1.2; omega) (by simp only [pren, List.length_append, List.length_cons, List.length_nil]; have l0_ := enc_len f3; have l1_ := enc_len f4; have l2_ := enc_len f5; have l3_ := enc_len f6; have l4_ := enc_len f7; have l5_ := enc_len f8; omega))
                        go_wp2_with (go_at_call 13; (refine HNS.out.mono ?_; rintro e w32 ⟨A2, nl2, c2, rfl, hR, hB2, hM⟩; have HO2 := Aside0.mk hR; have HB2 := Aside0.mk hB2; have HM2 := Aside0.mk hM; clear hR hB2 hM HNS))
                        go_roundg 2
                        case measure => omega
                        case rel => exact ⟨4, A2, nl2, c2, rfl, rfl, ⟨rfl⟩, HO2, HM2, HB2⟩
                      · subst h
                        obtain rfl : gk = 2 := by have := HI.out; omega
                        clear HI
                        have hix := idx_4 f3 f4 f5 f6 f7 f8
                        have HNS := Aside0.mk (num_step HB.out HO.out H_gm.out (n := f7) (HWF.out.2.2.2.2.2.2.2.2.2.2.1.1) (by have h_ : f7 ≤ 1099511627776 := HWF.out.2.2.2.2.2.2.2.2.2.2.1.2; omega) (by simp only [pren, List.length_append, List.length_cons, List.length_nil]; have l0_ := enc_len f3; have l1_ := enc_len f4; have l2_ := enc_len f5; have l3_ := enc_len f6; have l4_ := enc_len f7; have l5_ := enc_len f8; omega))
                        go_wp2_with (go_at_call 13; (refine HNS.out.mono ?_; rintro e w32 ⟨A2, nl2, c2, rfl, hR, hB2, hM⟩; have HO2 := Aside0.mk hR; have HB2 := Aside0.mk hB2; have HM2 := Aside0.mk hM; clear hR hB2 hM HNS))
                        go_roundg 1
                        case measure => omega
                        case rel => exact ⟨5, A2, nl2, c2, rfl, rfl, ⟨rfl⟩, HO2, HM2, HB2⟩
                      · subst h
                        obtain rfl : gk = 1 := by have := HI.out; omega
                        clear HI
                        have hix := idx_5 f3 f4 f5 f6 f7 f8
                        have HNS := Aside0.mk (num_step HB.out HO.out H_gm.out (n := f8) (HWF.out.2.2.2.2.2.2.2.2.2.2.2.1.1) (by have h_ : f8 ≤ 1099511627776 := HWF.out.2.2.2.2.2.2.2.2.2.2.2.1.2; omega) (by simp only [pren, List.length_append, List.length_cons, List.length_nil]; have l0_ := enc_len f3; have l1_ := enc_len f4; have l2_ := enc_len f5; have l3_ := enc_len f6; have l4_ := enc_len f7; have l5_ := enc_len f8; omega))
                        go_wp2_with (go_at_call 13; (refine HNS.out.mono ?_; rintro e w32 ⟨A2, nl2, c2, rfl, hR, hB2, hM⟩; have HO2 := Aside0.mk hR; have HB2 := Aside0.mk hB2; have HM2 := Aside0.mk hM; clear hR hB2 hM HNS))
                        go_roundg 0
                        case measure => omega
                        case rel => exact ⟨6, A2, nl2, c2, rfl, rfl, ⟨rfl⟩, HO2, HM2, HB2⟩
                      · subst h
                        clear HI
                        have h10 : f10.length ≤ 8 := HWF.out.2.2.2.2.2.2.2.2.2.2.2.2.1
                        have k10 : wr.cell? ⟨gm, 10, none⟩ = some (.slice A10 f10.length c10) := (blk_cell H_gm.out 10).trans rfl
                        have hp6 : (pren 6 [f0 % 256, f1 % 256, f2 % 256, (if f9 then 1 else 0)] f3 f4 f5 f6 f7 f8).length ≤ 50 := by simp only [pren, List.length_append, List.length_cons, List.length_nil]; have l0_ := enc_len f3; have l1_ := enc_len f4; have l2_ := enc_len f5; have l3_ := enc_len f6; have l4_ := enc_len f7; have l5_ := enc_len f8; omega
                        have HP6 := Aside0.mk hp6
                        have HNS := Aside0.mk (num_step HB.out HO.out H_gm.out (n := (f10.length : Int)) (by omega) (by omega) (by omega))
                        clear hp6 h10
                        go_wp2_with (go_at_call 13; (refine HNS.out.mono ?_; rintro e w32 ⟨A2, nl2, c2, rfl, hR, hB2, hM⟩; have HO2 := Aside0.mk hR; have HB2 := Aside0.mk hB2; have HM2 := Aside0.mk hM; clear hR hB2 hM HNS k10; have k10 : w32.cell? ⟨gm, 10, none⟩ = some (.slice A10 f10.length c10) := (blk_cell HM2.out 10).trans rfl))
                        go_loopg [12, 111] (f10.length + 1) (fun n v12 v111 W => ∃ (i : Nat) (A : Option Addr) (nl c : Nat), v12 = .slice A nl c ∧ v111 = .int .i64 (i : Int) ∧ Aside0 (n + i = f10.length + 1 ∧ i ≤ f10.length) ∧ Aside0 (Kd.R (Kd.int .u8) 5 W w.heap.size (fun _ => True) (.slice A nl c) ((pren 6 [f0 % 256, f1 % 256, f2 % 256, (if f9 then 1 else 0)] f3 f4 f5 f6 f7 f8) ++ enc (f10.length : Int) ++ encEs (f10.take i))) ∧ Aside0 (W.heap[gm]? = some (.cells #[.int .i64 f0, .int .i64 f1, .int .i64 f2, .int .i64 f3, .int .i64 f4, .int .i64 f5, .int .i64 f6, .int .i64 f7, .int .i64 f8, .bool f9, .slice A10 f10.length c10, .slice A11 f11.length c11] 32 (0, 0))) ∧ Aside0 (Below w.heap.size w W))
                        case atStart => exact ⟨0, A2, nl2, c2, rfl, rfl, ⟨by omega, by omega⟩, ⟨by have h_ := HO2.out; simpa [encEs] using h_⟩, HM2, HB2⟩
                        case round =>
                          clear HO2 HM2 HB2 H_gm HB HO
                          obtain ⟨i, A, nl, c, rfl, rfl, HI, HO, H_gm, HB⟩ := hrel
                          rcases Nat.lt_or_ge i f10.length with hi | hi
                          · skip
                            have c1 : decide ((i : Int) < (f10.length : Int)) = true := decide_eq_true (by omega)
                            have c1n : decide (i < f10.length) = true := decide_eq_true hi
                            have hxx : rd_T48 f10 (i : Int) = f10[i] := by unfold rd_T48; rw [Int.toNat_natCast, List.getD_eq_getElem?_getD, List.getElem?_eq_getElem hi, Option.getD_some]
                            have htk2 := encEs_take hi
                            have hwx := HWF.out.2.2.2.2.2.2.2.2.2.2.2.2.2.1 f10[i] (List.getElem_mem hi)
                            obtain ⟨x, hx⟩ : ∃ x, x = f10[i] := ⟨_, rfl⟩
                            rw [← hx] at hxx htk2 hwx
                            clear hx
                            have hle : ((pren 6 [f0 % 256, f1 % 256, f2 % 256, (if f9 then 1 else 0)] f3 f4 f5 f6 f7 f8) ++ enc (f10.length : Int) ++ encEs (f10.take i)).length + 3000 < 140737488355328 := by have a_ := HP6.out; have b_ := enc_len (f10.length : Int); have c_ := encEs_len (l := f10.take i) (fun e he => HWF.out.2.2.2.2.2.2.2.2.2.2.2.2.2.1 e (List.mem_of_mem_take he)); have d_ : (f10.take i).length ≤ 8 := Nat.le_trans (List.length_take_le _ _) (Nat.le_trans (Nat.le_of_lt hi) (HWF.out.2.2.2.2.2.2.2.2.2.2.2.2.1)); rw [List.length_append, List.length_append]; omega
                            have p0 : (0 : Int) ≤ (i : Int) := by omega
                            have p1 : (i : Int) < (f10.length : Int) := by omega
                            obtain ⟨ad, A3, c3, hA, y0, y1, y2, y3, h3, hC3⟩ := at_T48 HR10.out (i : Int) p0 p1
                            rw [hxx] at y0 y1 y2 y3 h3 hC3
                            subst hA
                            obtain ⟨x0, x1, x2, x3⟩ := x
                            simp only at y0 y1 y2 y3 h3 hC3
                            simp only [Int.toNat_natCast] at y0 y1 y2 y3
                            replace y0 := pw_cell_below HB.out y0
                            replace y1 := pw_cell_below HB.out y1
                            replace y2 := pw_cell_below HB.out y2
                            replace y3 := pw_cell_below HB.out y3
                            replace p0 := eq_true p0
                            replace p1 := eq_true p1
                            have HC3 := Aside0.mk hC3
                            have H3 := Aside0.mk h3
                            have HLI := Aside0.mk hi
                            have HTK := Aside0.mk htk2
                            have HWX := Aside0.mk hwx
                            have HLE := Aside0.mk hle
                            clear hxx hC3 h3 hi htk2 hwx hle
                            go_wp2_with (first | ((with_reducible refine gate_dst (N := 16) rfl ?_); refine box_event ?hg (N := 16) ?hd (cs := #[.int .i64 0, .int .i64 0, .int .i64 0, .slice none 0 0]) (t := 48) ?hr ?_; (case hd => rfl); (case hg => rfl); (case hr => first | (go_simp; done) | (go_simp; rfl)); intro ge hg w5 hbox hb; have H_ge := Aside0.mk hbox; have N_ge := Aside0.mk (Nat.ne_of_lt (by rw [hg]; exact blk_lt H_gm.out) : gm ≠ ge); have G_ge := Aside0.mk (by rw [hg]; exact HB.out.size : w.heap.size ≤ ge); have n0_ := Aside0.mk (blk_below H_gm.out hb); have n1_ := Aside0.mk (below_step HB.out hb); have n2_ := Aside0.mk (Kd.R_below HO.out hb); clear H_gm HB HO hb hbox hg; have H_gm := n0_; have HB := n1_; have HO := n2_; clear n0_ n1_ n2_; clear y0 y1 y2 y3) | ((with_reducible refine gate_store (t := 48) (p := 16) rfl ?_); (refine wpList_store_row rfl 48 (.tmp 16) (.tmp 114) rfl ge #[.int .i64 x0, .int .i64 x1, .int .i64 x2, .slice A3 x3.length c3] rfl rfl 48 #[.int .i64 0, .int .i64 0, .int .i64 0, .slice none 0 0] H_ge.out (by kernel_rfl) rfl (by simp [Value.oneCell']) ?_; have n0_ := Aside0.mk (Kd.R_mono (Kd.R_step (Kd.R_types HO.out H_ge.out (by decide)) (fun k hk _ => setRow_other w5 ge k #[.int .i64 x0, .int .i64 x1, .int .i64 x2, .slice A3 x3.length c3] hk.2)) (fun _ _ => trivial)); have n1_ := Aside0.mk ((setRow_other w5 ge gm #[.int .i64 x0, .int .i64 x1, .int .i64 x2, .slice A3 x3.length c3] N_ge.out).trans H_gm.out); have n2_ := Aside0.mk (setRow_heap w5 ge _ #[.int .i64 x0, .int .i64 x1, .int .i64 x2, .slice A3 x3.length c3] 48 (0, 0) H_ge.out); have n3_ := Aside0.mk (below_setRow HB.out G_ge.out #[.int .i64 x0, .int .i64 x1, .int .i64 x2, .slice A3 x3.length c3]); clear HO H_gm H_ge HB; have HO := n0_; have H_gm := n1_; have H_ge := n2_; have HB := n3_; clear n0_ n1_ n2_ n3_; generalize w5.setRow ge #[.int .i64 x0, .int .i64 x1, .int .i64 x2, .slice A3 x3.length c3] = w6 at H_gm H_ge HO HB ⊢)) | ((with_reducible refine gate_dst (N := 116) rfl ?_); (refine wpList_load_row rfl 48 (.tmp 16) rfl ge rfl 48 #[.int .i64 x0, .int .i64 x1, .int .i64 x2, .slice A3 x3.length c3] (0, 0) _ H_ge.out Try.underlying48 rfl (by kernel_rfl) ?_; simp only [Act.put, List.setIfInBounds_toArray, List.set_cons_zero, List.set_cons_succ])) | (go_at_call 14; (refine (lay_step HB.out HO.out H_gm.out x0 x1 x2 x3 HWX.out HC3.out H3.out HLE.out).mono ?_; rintro e w7 ⟨A2, nl2, c2, rfl, hR, hB2, hM⟩; have HO2 := Aside0.mk hR; have HB2 := Aside0.mk hB2; have HM2 := Aside0.mk hM; clear hR hB2 hM)))
                            go_roundg (gk - 1)
                            case measure => have := HI.out; have := HLI.out; omega
                            case rel => exact ⟨i + 1, A2, nl2, c2, rfl, by rw [Go.Proofs.Ytaacjoeldgganaa.S.wr _ (by omega) (by have := HLI.out; have := HLC.out; omega)]; rfl, ⟨by have := HI.out; have := HLI.out; omega⟩, ⟨by rw [HTK.out, ← List.append_assoc]; exact HO2.out⟩, HM2, HB2⟩
                          · obtain rfl : i = f10.length := by have := HI.out; omega
                            have c1 : decide ((f10.length : Int) < (f10.length : Int)) = false := decide_eq_false (by omega)
                            have c1n : decide (f10.length < f10.length) = false := decide_eq_false (by omega)
                            clear hi HI
                            have n0_ := Aside0.mk (by have h_ := HO.out; rw [List.take_length] at h_; exact h_ : Kd.R (Kd.int .u8) 5 wr w.heap.size (fun _ => True) (.slice A nl c) ((pren 6 [f0 % 256, f1 % 256, f2 % 256, (if f9 then 1 else 0)] f3 f4 f5 f6 f7 f8) ++ enc (f10.length : Int) ++ encEs f10))
                            clear HO
                            have HO := n0_
                            clear n0_
                            have hle : ((pren 6 [f0 % 256, f1 % 256, f2 % 256, (if f9 then 1 else 0)] f3 f4 f5 f6 f7 f8) ++ enc (f10.length : Int) ++ encEs f10).length ≤ 20000 := by have a_ := HP6.out; have b_ := enc_len (f10.length : Int); have c_ := encEs_len (l := f10) HWF.out.2.2.2.2.2.2.2.2.2.2.2.2.2.1; have d_ : f10.length ≤ 8 := HWF.out.2.2.2.2.2.2.2.2.2.2.2.2.1; rw [List.length_append, List.length_append]; omega
                            have h11 : f11.length ≤ 32768 := HWF.out.2.2.2.2.2.2.2.2.2.2.2.2.2.2
                            have HNS := Aside0.mk (num_step HB.out HO.out H_gm.out (n := (f11.length : Int)) (by omega) (by omega) (by omega))
                            have HLE := Aside0.mk hle
                            have H11 := Aside0.mk h11
                            clear hle h11
                            have k11 : wr.cell? ⟨gm, 11, none⟩ = some (.slice A11 f11.length c11) := (blk_cell H_gm.out 11).trans rfl
                            go_wp2_with (first | (go_at_call 13; (refine HNS.out.mono ?_; rintro e w33 ⟨A2, nl2, c2, rfl, hR, hB2, hM⟩; have HO2 := Aside0.mk hR; have HB2 := Aside0.mk hB2; have HM2 := Aside0.mk hM; clear hR hB2 hM HNS k11; have k11 : w33.cell? ⟨gm, 11, none⟩ = some (.slice A11 f11.length c11) := (blk_cell HM2.out 11).trans rfl)) | ((with_reducible refine gate_builtin (b := .append) (xs := #[.tmp 124, .tmp 126]) rfl ?_); at_builtin; (refine Kd.R_append_rows (Kd.int .u8) (w0 := w) w.heap.size rfl (.tmp 124) (.tmp 126) 24 5 (.int .u8 0) 1 rfl Try.underlying24 info5 rfl (by decide) (by omega) (.slice A2 nl2 c2) _ f11 _ _ _ (fun _ => True) (fun _ => False) rfl rfl HO2.out (Kd.C_below HR11.out HB2.out) (fun _ _ h => h) (fun _ h => h.elim) (fun _ _ => trivial) HB2.out HB2.out.size ?aL ?_; (case aL => have a_ := HLE.out; have b_ := H11.out; have c_ := enc_len (f11.length : Int); rw [List.length_append]; omega); intro v2 w34 ho hb hg hat; have HO3 := Aside0.mk ho; have HB3 := Aside0.mk hb; clear ho hb hg hat)))
                            go_ret2
                            exact ⟨HB3.out, .inr ⟨HWF.out, v2, rfl, by have h_ := HO3.out; have e_ : (pren 6 [f0 % 256, f1 % 256, f2 % 256, (if f9 then 1 else 0)] f3 f4 f5 f6 f7 f8) ++ enc (f10.length : Int) ++ encEs f10 ++ enc (f11.length : Int) ++ f11 = encM (⟨f0, f1, f2, f3, f4, f5, f6, f7, f8, f9, f10, f11⟩ : S32) := (by simp only [pren, encM, List.append_assoc, List.cons_append, List.nil_append]); exact e_ ▸ h_⟩⟩
                · skip
                  go_wp2
                  go_ret2
                  exact ⟨(by repeat (first | (with_reducible first | exact HB.out | apply below_alloc | apply pw_below_drewN | apply below_drew1) | exact HB.out)), .inl ⟨6, by decide, rfl⟩⟩
              · skip
                go_wp2
                go_ret2
                exact ⟨(by repeat (first | (with_reducible first | exact HB.out | apply below_alloc | apply pw_below_drewN | apply below_drew1) | exact HB.out)), .inl ⟨2, by decide, rfl⟩⟩
end Go.Proofs.Ytaacjoeldgganaa.S
