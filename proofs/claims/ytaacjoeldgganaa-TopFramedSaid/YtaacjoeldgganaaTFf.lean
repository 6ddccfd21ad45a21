import Derived.Test.YtaacjoeldgganaaTFa
import Derived.Test.YtaacjoeldgganaaTFe
/-! The reader's entry. -/
namespace Go.Proofs.Ytaacjoeldgganaa.S
open Go.RowKit Go.Proofs.YtaacjoeldgganaaW.PrintWords Go.Proofs.YtaacjoeldgganaaW.PrintLast Go.Proofs.YtaacjoeldgganaaW.PrintMore
set_option linter.unusedVariables false
set_option linter.unusedSimpArgs false
theorem KeepBut.setNew {w w1 : World} {g : Nat} (h : KeepBut w w1 g none) {b : Nat} (hb : w.heap.size ≤ b) (j : Nat) (u : Value) : KeepBut w (w1.setCell ⟨b, j, none⟩ u) g none :=
  ⟨by simpa [World.setCell] using h.1, fun i hi hg hr => (Below.heap_setCell w1 ⟨b, j, none⟩ u i (Nat.ne_of_lt (Nat.lt_of_lt_of_le hi hb))).trans (h.2 i hi hg hr)⟩
theorem RdAt.lt {W : World} {g : Nat} {A : Option Addr} {n c : Nat} {p : Int} (h : RdAt W g A n c p) : g < W.heap.size := blk_lt h
theorem RdAt.below {W W1 : World} {g : Nat} {A : Option Addr} {n c : Nat} {p : Int} (h : RdAt W g A n c p) (hb : Below W.heap.size W W1) : RdAt W1 g A n c p := blk_below h hb
theorem RdAt.far {W : World} {g : Nat} {A : Option Addr} {n c : Nat} {p : Int} (h : RdAt W g A n c p) {b : Nat} (hb : g ≠ b) (j : Nat) (u : Value) : RdAt (W.setCell ⟨b, j, none⟩ u) g A n c p := blk_far h hb u
theorem keep_blk {w w1 : World} {g b : Nat} {o : Obj} (h : w.heap[b]? = some o) (hk : KeepBut w w1 g none) (hne : b ≠ g) : w1.heap[b]? = some o := KeepBut.blk hk h hne (by simp)
/-- An entry that may be. -/
def wfE (e : S48) : Prop := 1 ≤ e.f0 ∧ e.f0 ≤ 3 ∧ 1 ≤ e.f1 ∧ e.f1 ≤ 1099511627776 ∧ 1 ≤ e.f2 ∧ e.f2 ≤ 1099511627776 ∧ (e.f0 = 1 → e.f3 = []) ∧ e.f3.length ≤ 2048
set_option maxHeartbeats 8000000 in
set_option maxRecDepth 100000 in
theorem rd_entry {w0 w : World} (hB : Below w0.heap.size w0 w) {g : Nat} (hg : w0.heap.size ≤ g) {A : Option Addr} {c : Nat} {l post : List Int} (hr : Kd.C (Kd.int .u8) w0 A l.length l) (hc : l.length ≤ c) {p : Nat} (hA : RdAt w g A l.length c p) (e : S48) (he : wfE e) (hl : l.drop p = encE e ++ post) (hlen : l.length < 1152921504606846976) :
    Calls Try.prog 21 #[.pointer (some ⟨g, 0, none⟩)] w fun r w' => ∃ v, r = .returned (.agg #[.int .i64 e.f0, .int .i64 e.f1, .int .i64 e.f2, v]) ∧ Kd.R (Kd.int .u8) 5 w' w.heap.size (fun _ => True) v e.f3 ∧ RdAt w' g A l.length c ((p + (encE e).length : Nat) : Int) ∧ Below w0.heap.size w0 w' ∧ KeepBut w w' g none := by
  obtain ⟨f0, f1, f2, f3⟩ := e
  obtain ⟨h1, h2, h3, h4, h5, h6, h7, h8⟩ := he
  simp only at h1 h2 h3 h4 h5 h6 h7 h8
  have hk : f0 % 256 = f0 := Int.emod_eq_of_lt (by omega) (by omega)
  unfold encE at hl ⊢
  simp only [hk] at hl ⊢
  obtain ⟨p1, hp1⟩ : ∃ q : Nat, q = p + 1 := ⟨_, rfl⟩
  obtain ⟨p2, hp2⟩ : ∃ q : Nat, q = p1 + (enc f1).length := ⟨_, rfl⟩
  obtain ⟨p3, hp3⟩ : ∃ q : Nat, q = p2 + (enc f2).length := ⟨_, rfl⟩
  obtain ⟨p4, hp4⟩ : ∃ q : Nat, q = p3 + (enc f3.length).length + f3.length := ⟨_, rfl⟩
  have hend : p + ([f0] ++ enc f1 ++ enc f2 ++ enc f3.length ++ f3).length = p4 := by simp only [List.length_append, List.length_cons, List.length_nil]; omega
  rw [hend]
  have d0 : l.drop p = f0 :: (enc f1 ++ (enc f2 ++ (enc f3.length ++ (f3 ++ post)))) := by rw [hl]; simp
  have d1 : l.drop p1 = enc f1 ++ (enc f2 ++ (enc f3.length ++ (f3 ++ post))) := by rw [hp1, ← List.drop_drop, d0]; rfl
  have d2 : l.drop p2 = enc f2 ++ (enc f3.length ++ (f3 ++ post)) := by rw [hp2, ← List.drop_drop, d1, List.drop_left]
  have d3 : l.drop p3 = enc f3.length ++ (f3 ++ post) := by rw [hp3, ← List.drop_drop, d2, List.drop_left]
  have hlt : p < l.length := by
    rcases Nat.lt_or_ge p l.length with h | h
    · exact h
    · rw [List.drop_eq_nil_of_le h] at d0
      cases d0
  have hx : rd l p = f0 := by
    have := List.drop_eq_getElem_cons hlt
    rw [d0] at this
    simp only [List.cons.injEq] at this
    unfold rd
    rw [Int.toNat_natCast, List.getD_eq_getElem?_getD, List.getElem?_eq_getElem hlt, Option.getD_some, this.1]
  have hq1 : p1 ≤ l.length := by omega
  have hq2 : p2 ≤ l.length := by have := congrArg List.length d1; simp at this; omega
  have hq3 : p3 ≤ l.length := by have := congrArg List.length d2; simp at this; omega
  have HBY := Aside0.mk (show ∀ W, Below w0.heap.size w0 W → RdAt W g A l.length c p → _ from fun W b a => rd_byte b hg hr a 1 3 f0 hx hlt h1 h2 (by omega) (by omega) hlen)
  have HN1 := Aside0.mk (show ∀ W, Below w0.heap.size w0 W → RdAt W g A l.length c p1 → _ from fun W b a => rd_number b hg hr a (n := f1) 1 (by omega) h4 h3 d1 hq1 hlen)
  have HN2 := Aside0.mk (show ∀ W, Below w0.heap.size w0 W → RdAt W g A l.length c p2 → _ from fun W b a => rd_number b hg hr a (n := f2) 1 (by omega) h6 h5 d2 hq2 hlen)
  have HN3 := Aside0.mk (show ∀ W, Below w0.heap.size w0 W → RdAt W g A l.length c p3 → _ from fun W b a => rd_number b hg hr a (n := f3.length) 0 (by omega) (by omega) (by omega) d3 hq3 hlen)
  have HD := Aside0.mk (show ∀ W, Below w0.heap.size w0 W → RdAt W g A l.length c p3 → _ from fun W b a => rd_data b hg hr hc a (d := f3) (post := post) 2048 (by omega) (by omega) d3 hq3 hlen)
  rw [← hp1] at HBY
  rw [← hp2] at HN1
  rw [← hp3] at HN2
  rw [← hp4] at HD
  have H7 := Aside0.mk h7
  have HG := Aside0.mk hg
  have HB := Aside0.mk hB
  have HA := Aside0.mk hA
  have HK := Aside0.mk (KeepBut.refl w g none)
  have HP4 := Aside0.mk hp4
  have hu := Try.underlying48
  clear hB hg hr hc hA hl hlen h1 h2 h3 h4 h5 h6 h7 h8 hk hend d0 d1 d2 d3 hlt hx hq1 hq2 hq3 hp1 hp2 hp3 hp4
  go_enter Try.func21, Try.ntmps21
  go_upto_region 1 with (((with_reducible refine gate_dst (N := 2) rfl ?_); refine box_event ?hg (N := 2) ?hd (cs := #[.int .i64 0, .int .i64 0, .int .i64 0, .slice none 0 0]) (t := 48) ?hr ?_; (case hd => rfl); (case hg => rfl); (case hr => first | (go_simp; done) | (go_simp; rfl)); intro gx hg w1 hbox hb; have HX := Aside0.mk hbox; have NX := Aside0.mk (Nat.ne_of_gt (by rw [hg]; exact RdAt.lt HA.out) : gx ≠ g); have GX := Aside0.mk (by rw [hg]; exact HK.out.1 : w.heap.size ≤ gx); have GX0 := Aside0.mk (by rw [hg]; exact HB.out.size : w0.heap.size ≤ gx); have n0_ := Aside0.mk (RdAt.below HA.out hb); have n1_ := Aside0.mk (KeepBut.trans HK.out (KeepBut.of_below hb g none) (.inl rfl)); have n2_ := Aside0.mk (below_then HB.out HB.out.size hb); clear HA HK HB hb hbox hg; have HA := n0_; have HK := n1_; have HB := n2_; clear n0_ n1_ n2_))
  go_upto_region 2 with (first | (go_at_call 19; refine (HBY.out _ HB.out HA.out).mono ?_; rintro r w2 ⟨rfl, hA2, hB2, hK2⟩; have n0_ := Aside0.mk (keep_blk HX.out hK2 NX.out); have n1_ := Aside0.mk (hA2); have n2_ := Aside0.mk (KeepBut.trans HK.out hK2 (.inl rfl)); have n3_ := Aside0.mk (hB2); clear HX HA HK HB hA2 hB2 hK2; have HX := n0_; have HA := n1_; have HK := n2_; have HB := n3_; clear n0_ n1_ n2_ n3_) | ((with_reducible refine gate_dst (N := 3) rfl ?_); refine box_event ?hg (N := 3) ?hd (cs := #[.int .i64 0, .int .i64 0, .int .i64 0, .slice none 0 0]) (t := 48) ?hr ?_; (case hd => rfl); (case hg => rfl); (case hr => first | (go_simp; done) | (go_simp; rfl)); intro ge hg w3 hbox hb; have HE := Aside0.mk hbox; have NE := Aside0.mk (Nat.ne_of_gt (by rw [hg]; exact RdAt.lt HA.out) : ge ≠ g); have NXE := Aside0.mk (Nat.ne_of_lt (by rw [hg]; exact blk_lt HX.out) : gx ≠ ge); have GE := Aside0.mk (by rw [hg]; exact HK.out.1 : w.heap.size ≤ ge); have GE0 := Aside0.mk (by rw [hg]; exact HB.out.size : w0.heap.size ≤ ge); have n0_ := Aside0.mk (RdAt.below HA.out hb); have n1_ := Aside0.mk (KeepBut.trans HK.out (KeepBut.of_below hb g none) (.inl rfl)); have n2_ := Aside0.mk (blk_below HX.out hb); have n3_ := Aside0.mk (below_then HB.out HB.out.size hb); clear HA HK HX HB hb hbox; have HA := n0_; have HK := n1_; have HX := n2_; have HB := n3_; clear n0_ n1_ n2_ n3_; have e0 : w3.cell? ⟨ge, 0, none⟩ = some (.int .i64 0) := (blk_cell HE.out 0).trans rfl; have e1 : w3.cell? ⟨ge, 1, none⟩ = some (.int .i64 0) := (blk_cell HE.out 1).trans rfl; have e2 : w3.cell? ⟨ge, 2, none⟩ = some (.int .i64 0) := (blk_cell HE.out 2).trans rfl; have e3 : w3.cell? ⟨ge, 3, none⟩ = some (.slice none 0 0) := (blk_cell HE.out 3).trans rfl; have u0 := blk_frozen HE.out 0; have u1 := blk_frozen HE.out 1; have u2 := blk_frozen HE.out 2; have u3 := blk_frozen HE.out 3; clear hg))
  have n0_ := Aside0.mk ((show ((((w3.setCell ⟨ge, 0, none⟩ (.int .i64 f0)).setCell ⟨ge, 1, none⟩ (.int .i64 0)).setCell ⟨ge, 2, none⟩ (.int .i64 0)).setCell ⟨ge, 3, none⟩ (.slice none 0 0)).heap[ge]? = some (.cells #[.int .i64 f0, .int .i64 0, .int .i64 0, .slice none 0 0] 48 (0, 0)) from (blk_put (blk_put (blk_put (blk_put HE.out 0 (.int .i64 f0) rfl) 1 (.int .i64 0) rfl) 2 (.int .i64 0) rfl) 3 (.slice none 0 0) rfl)))
  have n1_ := Aside0.mk ((blk_far (p := ⟨ge, 3, none⟩) (blk_far (p := ⟨ge, 2, none⟩) (blk_far (p := ⟨ge, 1, none⟩) (blk_far (p := ⟨ge, 0, none⟩) HX.out NXE.out (.int .i64 f0)) NXE.out (.int .i64 0)) NXE.out (.int .i64 0)) NXE.out (.slice none 0 0)))
  have n2_ := Aside0.mk ((RdAt.far (RdAt.far (RdAt.far (RdAt.far HA.out NE.out.symm 0 (.int .i64 f0)) NE.out.symm 1 (.int .i64 0)) NE.out.symm 2 (.int .i64 0)) NE.out.symm 3 (.slice none 0 0)))
  have n3_ := Aside0.mk ((below_set (j := 3) (v := .slice none 0 0) (below_set (j := 2) (v := .int .i64 0) (below_set (j := 1) (v := .int .i64 0) (below_set (j := 0) (v := .int .i64 f0) HB.out GE0.out) GE0.out) GE0.out) GE0.out))
  have n4_ := Aside0.mk ((KeepBut.setNew (KeepBut.setNew (KeepBut.setNew (KeepBut.setNew HK.out GE.out 0 (.int .i64 f0)) GE.out 1 (.int .i64 0)) GE.out 2 (.int .i64 0)) GE.out 3 (.slice none 0 0)))
  clear HE HX HA HB HK e0 e1 e2 e3 u0 u1 u2 u3
  have HE := n0_
  have HX := n1_
  have HA := n2_
  have HB := n3_
  have HK := n4_
  clear n0_ n1_ n2_ n3_ n4_
  generalize ((((w3.setCell ⟨ge, 0, none⟩ (.int .i64 f0)).setCell ⟨ge, 1, none⟩ (.int .i64 0)).setCell ⟨ge, 2, none⟩ (.int .i64 0)).setCell ⟨ge, 3, none⟩ (.slice none 0 0)) = w4 at HE HX HA HB HK ⊢
  go_upto_region 3 with (go_at_call 20; refine (HN1.out _ HB.out HA.out).mono ?_; rintro r w5 ⟨rfl, hA2, hB2, hK2⟩; have n0_ := Aside0.mk (keep_blk HX.out hK2 NX.out); have n1_ := Aside0.mk (keep_blk HE.out hK2 NE.out); have n2_ := Aside0.mk (hA2); have n3_ := Aside0.mk (KeepBut.trans HK.out hK2 (.inl rfl)); have n4_ := Aside0.mk (hB2); clear HX HE HA HK HB hA2 hB2 hK2; have HX := n0_; have HE := n1_; have HA := n2_; have HK := n3_; have HB := n4_; clear n0_ n1_ n2_ n3_ n4_; have e1 : w5.cell? ⟨ge, 1, none⟩ = some (.int .i64 0) := (blk_cell HE.out 1).trans rfl; have u1 := blk_frozen HE.out 1)
  have n0_ := Aside0.mk ((show (w5.setCell ⟨ge, 1, none⟩ (.int .i64 f1)).heap[ge]? = some (.cells #[.int .i64 f0, .int .i64 f1, .int .i64 0, .slice none 0 0] 48 (0, 0)) from (blk_put HE.out 1 (.int .i64 f1) rfl)))
  have n1_ := Aside0.mk ((blk_far (p := ⟨ge, 1, none⟩) HX.out NXE.out (.int .i64 f1)))
  have n2_ := Aside0.mk ((RdAt.far HA.out NE.out.symm 1 (.int .i64 f1)))
  have n3_ := Aside0.mk ((below_set (j := 1) (v := .int .i64 f1) HB.out GE0.out))
  have n4_ := Aside0.mk ((KeepBut.setNew HK.out GE.out 1 (.int .i64 f1)))
  clear HE HX HA HB HK e1 u1
  have HE := n0_
  have HX := n1_
  have HA := n2_
  have HB := n3_
  have HK := n4_
  clear n0_ n1_ n2_ n3_ n4_
  generalize (w5.setCell ⟨ge, 1, none⟩ (.int .i64 f1)) = w6 at HE HX HA HB HK ⊢
  go_upto_region 4 with (go_at_call 20; refine (HN2.out _ HB.out HA.out).mono ?_; rintro r w7 ⟨rfl, hA2, hB2, hK2⟩; have n0_ := Aside0.mk (keep_blk HX.out hK2 NX.out); have n1_ := Aside0.mk (keep_blk HE.out hK2 NE.out); have n2_ := Aside0.mk (hA2); have n3_ := Aside0.mk (KeepBut.trans HK.out hK2 (.inl rfl)); have n4_ := Aside0.mk (hB2); clear HX HE HA HK HB hA2 hB2 hK2; have HX := n0_; have HE := n1_; have HA := n2_; have HK := n3_; have HB := n4_; clear n0_ n1_ n2_ n3_ n4_; have e2 : w7.cell? ⟨ge, 2, none⟩ = some (.int .i64 0) := (blk_cell HE.out 2).trans rfl; have u2 := blk_frozen HE.out 2)
  have n0_ := Aside0.mk ((show (w7.setCell ⟨ge, 2, none⟩ (.int .i64 f2)).heap[ge]? = some (.cells #[.int .i64 f0, .int .i64 f1, .int .i64 f2, .slice none 0 0] 48 (0, 0)) from (blk_put HE.out 2 (.int .i64 f2) rfl)))
  have n1_ := Aside0.mk ((blk_far (p := ⟨ge, 2, none⟩) HX.out NXE.out (.int .i64 f2)))
  have n2_ := Aside0.mk ((RdAt.far HA.out NE.out.symm 2 (.int .i64 f2)))
  have n3_ := Aside0.mk ((below_set (j := 2) (v := .int .i64 f2) HB.out GE0.out))
  have n4_ := Aside0.mk ((KeepBut.setNew HK.out GE.out 2 (.int .i64 f2)))
  clear HE HX HA HB HK e2 u2
  have HE := n0_
  have HX := n1_
  have HA := n2_
  have HB := n3_
  have HK := n4_
  clear n0_ n1_ n2_ n3_ n4_
  generalize (w7.setCell ⟨ge, 2, none⟩ (.int .i64 f2)) = w8 at HE HX HA HB HK ⊢
  have e0 : w8.cell? ⟨ge, 0, none⟩ = some (.int .i64 f0) := (blk_cell HE.out 0).trans rfl
  by_cases hz : f0 = 1
  · obtain rfl := H7.out hz
    have c0 : (f0 == 1) = true := by rw [hz]; rfl
    have hp : p3 + (enc ((([] : List Int).length : Nat) : Int)).length = p4 := by have := HP4.out; simpa using this.symm
    rw [hp] at HN3
    have c1 : decide (0 < ((([] : List Int).length : Nat) : Int)) = false := by decide
    clear hz
    have HC0 := Aside0.mk c0; clear c0; have c0 := HC0.out
    go_wp2_with (go_at_call 20; refine (HN3.out _ HB.out HA.out).mono ?_; rintro r w9 ⟨rfl, hA2, hB2, hK2⟩; have n0_ := Aside0.mk (keep_blk HX.out hK2 NX.out); have n1_ := Aside0.mk (keep_blk HE.out hK2 NE.out); have n2_ := Aside0.mk (hA2); have n3_ := Aside0.mk (KeepBut.trans HK.out hK2 (.inl rfl)); have n4_ := Aside0.mk (hB2); clear HX HE HA HK HB hA2 hB2 hK2; have HX := n0_; have HE := n1_; have HA := n2_; have HK := n3_; have HB := n4_; clear n0_ n1_ n2_ n3_ n4_; have e0 : w9.cell? ⟨ge, 0, none⟩ = some (.int .i64 f0) := (blk_cell HE.out 0).trans rfl; have u0 := blk_frozen HE.out 0; have e1 : w9.cell? ⟨ge, 1, none⟩ = some (.int .i64 f1) := (blk_cell HE.out 1).trans rfl; have u1 := blk_frozen HE.out 1; have e2 : w9.cell? ⟨ge, 2, none⟩ = some (.int .i64 f2) := (blk_cell HE.out 2).trans rfl; have u2 := blk_frozen HE.out 2; have e3 : w9.cell? ⟨ge, 3, none⟩ = some (.slice none 0 0) := (blk_cell HE.out 3).trans rfl; have u3 := blk_frozen HE.out 3; have x0 : w9.cell? ⟨gx, 0, none⟩ = some (.int .i64 0) := (blk_cell HX.out 0).trans rfl; have y0 := blk_frozen HX.out 0; have x1 : w9.cell? ⟨gx, 1, none⟩ = some (.int .i64 0) := (blk_cell HX.out 1).trans rfl; have y1 := blk_frozen HX.out 1; have x2 : w9.cell? ⟨gx, 2, none⟩ = some (.int .i64 0) := (blk_cell HX.out 2).trans rfl; have y2 := blk_frozen HX.out 2; have x3 : w9.cell? ⟨gx, 3, none⟩ = some (.slice none 0 0) := (blk_cell HX.out 3).trans rfl; have y3 := blk_frozen HX.out 3)
    refine bodyPost_ret (results_cell_row rfl _ _ gx 48 #[.int .i64 f0, .int .i64 f1, .int .i64 f2, .slice none 0 0] (0, 0) _ rfl (show ((((w9.setCell ⟨gx, 0, none⟩ (.int .i64 f0)).setCell ⟨gx, 1, none⟩ (.int .i64 f1)).setCell ⟨gx, 2, none⟩ (.int .i64 f2)).setCell ⟨gx, 3, none⟩ (.slice none 0 0)).heap[gx]? = some (.cells #[.int .i64 f0, .int .i64 f1, .int .i64 f2, .slice none 0 0] 48 (0, 0)) from blk_put (blk_put (blk_put (blk_put HX.out 0 (.int .i64 f0) rfl) 1 (.int .i64 f1) rfl) 2 (.int .i64 f2) rfl) 3 (.slice none 0 0) rfl) Try.underlying48 rfl (by kernel_rfl)) rfl ?_
    exact ⟨(.slice none 0 0), rfl, Kd.R_nil _ _ _ _ _, (RdAt.far (RdAt.far (RdAt.far (RdAt.far HA.out NX.out.symm 0 (.int .i64 f0)) NX.out.symm 1 (.int .i64 f1)) NX.out.symm 2 (.int .i64 f2)) NX.out.symm 3 (.slice none 0 0)), (below_set (j := 3) (v := .slice none 0 0) (below_set (j := 2) (v := .int .i64 f2) (below_set (j := 1) (v := .int .i64 f1) (below_set (j := 0) (v := .int .i64 f0) HB.out GX0.out) GX0.out) GX0.out) GX0.out), (KeepBut.setNew (KeepBut.setNew (KeepBut.setNew (KeepBut.setNew HK.out GX.out 0 (.int .i64 f0)) GX.out 1 (.int .i64 f1)) GX.out 2 (.int .i64 f2)) GX.out 3 (.slice none 0 0))⟩
  · have c0 : (f0 == 1) = false := beq_eq_false_iff_ne.mpr hz
    clear hz
    go_upto_region 9 with (go_at_call 22; refine (HD.out _ HB.out HA.out).mono ?_; rintro r w9 ⟨v, rfl, hO, hA2, hB2, hK2⟩; have HO := Aside0.mk (Kd.R_lower hO HK.out.1); clear hO; obtain ⟨Av, cv, ev⟩ := Kd.R_slice HO.out; subst ev; have n0_ := Aside0.mk (keep_blk HX.out hK2 NX.out); have n1_ := Aside0.mk (keep_blk HE.out hK2 NE.out); have n2_ := Aside0.mk (hA2); have n3_ := Aside0.mk (KeepBut.trans HK.out hK2 (.inl rfl)); have n4_ := Aside0.mk (hB2); clear HX HE HA HK HB hA2 hB2 hK2; have HX := n0_; have HE := n1_; have HA := n2_; have HK := n3_; have HB := n4_; clear n0_ n1_ n2_ n3_ n4_; have e3 : w9.cell? ⟨ge, 3, none⟩ = some (.slice none 0 0) := (blk_cell HE.out 3).trans rfl; have u3 := blk_frozen HE.out 3)
    have n0_ := Aside0.mk ((show (w9.setCell ⟨ge, 3, none⟩ (.slice Av f3.length cv)).heap[ge]? = some (.cells #[.int .i64 f0, .int .i64 f1, .int .i64 f2, .slice Av f3.length cv] 48 (0, 0)) from (blk_put HE.out 3 (.slice Av f3.length cv) rfl)))
    have n1_ := Aside0.mk ((blk_far (p := ⟨ge, 3, none⟩) HX.out NXE.out (.slice Av f3.length cv)))
    have n2_ := Aside0.mk ((RdAt.far HA.out NE.out.symm 3 (.slice Av f3.length cv)))
    have n3_ := Aside0.mk ((below_set (j := 3) (v := .slice Av f3.length cv) HB.out GE0.out))
    have n4_ := Aside0.mk ((KeepBut.setNew HK.out GE.out 3 (.slice Av f3.length cv)))
    have n5_ := Aside0.mk ((Kd.R_set HO.out HE.out (by decide) 3 (.slice Av f3.length cv)))
    clear HE HX HA HB HK HO e0 e3 u3
    have HE := n0_
    have HX := n1_
    have HA := n2_
    have HB := n3_
    have HK := n4_
    have HO := n5_
    clear n0_ n1_ n2_ n3_ n4_ n5_
    generalize (w9.setCell ⟨ge, 3, none⟩ (.slice Av f3.length cv)) = w10 at HE HX HA HB HK HO ⊢
    have e0 : w10.cell? ⟨ge, 0, none⟩ = some (.int .i64 f0) := (blk_cell HE.out 0).trans rfl
    have u0 := blk_frozen HE.out 0
    have e1 : w10.cell? ⟨ge, 1, none⟩ = some (.int .i64 f1) := (blk_cell HE.out 1).trans rfl
    have u1 := blk_frozen HE.out 1
    have e2 : w10.cell? ⟨ge, 2, none⟩ = some (.int .i64 f2) := (blk_cell HE.out 2).trans rfl
    have u2 := blk_frozen HE.out 2
    have e3 : w10.cell? ⟨ge, 3, none⟩ = some (.slice Av f3.length cv) := (blk_cell HE.out 3).trans rfl
    have u3 := blk_frozen HE.out 3
    have x0 : w10.cell? ⟨gx, 0, none⟩ = some (.int .i64 0) := (blk_cell HX.out 0).trans rfl
    have y0 := blk_frozen HX.out 0
    have x1 : w10.cell? ⟨gx, 1, none⟩ = some (.int .i64 0) := (blk_cell HX.out 1).trans rfl
    have y1 := blk_frozen HX.out 1
    have x2 : w10.cell? ⟨gx, 2, none⟩ = some (.int .i64 0) := (blk_cell HX.out 2).trans rfl
    have y2 := blk_frozen HX.out 2
    have x3 : w10.cell? ⟨gx, 3, none⟩ = some (.slice none 0 0) := (blk_cell HX.out 3).trans rfl
    have y3 := blk_frozen HX.out 3
    go_wp2
    refine bodyPost_ret (results_cell_row rfl _ _ gx 48 #[.int .i64 f0, .int .i64 f1, .int .i64 f2, .slice Av f3.length cv] (0, 0) _ rfl (show ((((w10.setCell ⟨gx, 0, none⟩ (.int .i64 f0)).setCell ⟨gx, 1, none⟩ (.int .i64 f1)).setCell ⟨gx, 2, none⟩ (.int .i64 f2)).setCell ⟨gx, 3, none⟩ (.slice Av f3.length cv)).heap[gx]? = some (.cells #[.int .i64 f0, .int .i64 f1, .int .i64 f2, .slice Av f3.length cv] 48 (0, 0)) from blk_put (blk_put (blk_put (blk_put HX.out 0 (.int .i64 f0) rfl) 1 (.int .i64 f1) rfl) 2 (.int .i64 f2) rfl) 3 (.slice Av f3.length cv) rfl) Try.underlying48 rfl (by kernel_rfl)) rfl ?_
    exact ⟨(.slice Av f3.length cv), rfl, (Kd.R_set (Kd.R_set (Kd.R_set (Kd.R_set HO.out HX.out (by decide) 0 (.int .i64 f0)) (blk_put HX.out 0 (.int .i64 f0) rfl) (by decide) 1 (.int .i64 f1)) (blk_put (blk_put HX.out 0 (.int .i64 f0) rfl) 1 (.int .i64 f1) rfl) (by decide) 2 (.int .i64 f2)) (blk_put (blk_put (blk_put HX.out 0 (.int .i64 f0) rfl) 1 (.int .i64 f1) rfl) 2 (.int .i64 f2) rfl) (by decide) 3 (.slice Av f3.length cv)), (RdAt.far (RdAt.far (RdAt.far (RdAt.far HA.out NX.out.symm 0 (.int .i64 f0)) NX.out.symm 1 (.int .i64 f1)) NX.out.symm 2 (.int .i64 f2)) NX.out.symm 3 (.slice Av f3.length cv)), (below_set (j := 3) (v := .slice Av f3.length cv) (below_set (j := 2) (v := .int .i64 f2) (below_set (j := 1) (v := .int .i64 f1) (below_set (j := 0) (v := .int .i64 f0) HB.out GX0.out) GX0.out) GX0.out) GX0.out), (KeepBut.setNew (KeepBut.setNew (KeepBut.setNew (KeepBut.setNew HK.out GX.out 0 (.int .i64 f0)) GX.out 1 (.int .i64 f1)) GX.out 2 (.int .i64 f2)) GX.out 3 (.slice Av f3.length cv))⟩
end Go.Proofs.Ytaacjoeldgganaa.S
