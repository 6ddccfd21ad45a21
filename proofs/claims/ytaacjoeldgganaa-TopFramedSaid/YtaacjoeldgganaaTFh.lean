import Derived.Test.YtaacjoeldgganaaTFg
import Derived.Laws.CopyOwn
import Derived.Test.YtaacjoeldgganaaSxOp
/-! GetMsg, over a message's bytes. -/
namespace Go.Proofs.Ytaacjoeldgganaa.S
open Go.RowKit Go.Proofs.YtaacjoeldgganaaW.PrintWords Go.Proofs.YtaacjoeldgganaaW.PrintLast Go.Proofs.YtaacjoeldgganaaW.PrintMore
set_option linter.unusedVariables false
set_option linter.unusedSimpArgs false
/-- Entries' bytes. -/
def encEs (l : List S48) : List Int := (l.map encE).flatten
/-- A message's bytes. -/
def encM (m : S32) : List Int := [m.f0 % 256, m.f1 % 256, m.f2 % 256, (if m.f9 then 1 else 0)] ++ (enc m.f3 ++ (enc m.f4 ++ (enc m.f5 ++ (enc m.f6 ++ (enc m.f7 ++ (enc m.f8 ++ (enc m.f10.length ++ (encEs m.f10 ++ (enc m.f11.length ++ m.f11)))))))))
def numOk (n : Int) : Prop := 0 ≤ n ∧ n ≤ 1099511627776
/-- A message that may be. -/
def wfM (m : S32) : Prop := 1 ≤ m.f0 ∧ m.f0 ≤ 7 ∧ 1 ≤ m.f1 ∧ m.f1 ≤ 9 ∧ 1 ≤ m.f2 ∧ m.f2 ≤ 9 ∧ numOk m.f3 ∧ numOk m.f4 ∧ numOk m.f5 ∧ numOk m.f6 ∧ numOk m.f7 ∧ numOk m.f8 ∧ m.f10.length ≤ 8 ∧ (∀ e ∈ m.f10, wfE e) ∧ m.f11.length ≤ 32768
theorem R_call {W W1 : World} {α : Type} {d : Kd α} {e base : Nat} {v : Value} {xs : List α} {g : Nat} {t : TypeId} {cs : Array Value} (h : d.R e W base (fun _ => True) v xs) (hb : W.heap[g]? = some (.cells cs t (0, 0))) (ht : ∀ q, q ∈ e :: d.E → q ≠ t) (hk : KeepBut W W1 g none) : d.R e W1 base (fun _ => True) v xs :=
  Kd.R_mono (Kd.R_keep (Kd.R_types h hb ht) hk (fun _ hk => hk.2)) (fun _ _ => trivial)
theorem rd_at {l : List Int} {p : Nat} {x : Int} {r : List Int} (h : l.drop p = x :: r) : rd l p = x ∧ p < l.length ∧ l.drop (p + 1) = r := by
  have hlt : p < l.length := by
    rcases Nat.lt_or_ge p l.length with h' | h'
    · exact h'
    · rw [List.drop_eq_nil_of_le h'] at h
      cases h
  have := List.drop_eq_getElem_cons hlt
  rw [h] at this
  simp only [List.cons.injEq] at this
  refine ⟨?_, hlt, this.2.symm⟩
  unfold rd
  rw [Int.toNat_natCast, List.getD_eq_getElem?_getD, List.getElem?_eq_getElem hlt, Option.getD_some, this.1]
theorem drop_next {l a r : List Int} {p : Nat} (h : l.drop p = a ++ r) (hp : p ≤ l.length) : l.drop (p + a.length) = r ∧ p + a.length ≤ l.length := by
  constructor
  · rw [← List.drop_drop, h, List.drop_left]
  · have := congrArg List.length h
    simp at this
    omega
def sel (i j : Nat) (x : Int) : Int := if j < i then x else 0
def posn (i a0 a1 a2 a3 a4 a5 a6 : Nat) : Nat := match i with | 0 => a0 | 1 => a1 | 2 => a2 | 3 => a3 | 4 => a4 | 5 => a5 | _ => a6
theorem encEs_take {l : List S48} {i : Nat} (hi : i < l.length) : encEs (l.take (i + 1)) = encEs (l.take i) ++ encE l[i] := by
  unfold encEs
  rw [List.take_succ_eq_append_getElem hi, List.map_append, List.flatten_append]
  simp only [List.map_cons, List.map_nil, List.flatten_cons, List.flatten_nil, List.append_nil]
theorem encEs_drop {l : List S48} {i : Nat} (hi : i < l.length) : encEs (l.drop i) = encE l[i] ++ encEs (l.drop (i + 1)) := by
  unfold encEs
  rw [List.drop_eq_getElem_cons hi, List.map_cons, List.flatten_cons]
theorem ents_at {l post : List Int} {es : List S48} {p : Nat} (h : l.drop p = encEs es ++ post) (hp : p ≤ l.length) : ∀ i, i ≤ es.length → l.drop (p + (encEs (es.take i)).length) = encEs (es.drop i) ++ post ∧ p + (encEs (es.take i)).length ≤ l.length
  | 0, _ => ⟨by simpa [encEs] using h, by simpa [encEs] using hp⟩
  | i + 1, hi => by
    have hi' : i < es.length := by omega
    obtain ⟨h1, h2⟩ := ents_at h hp i (by omega)
    rw [encEs_drop hi', List.append_assoc] at h1
    obtain ⟨h3, h4⟩ := drop_next h1 h2
    rw [encEs_take hi', List.length_append, ← Nat.add_assoc]
    exact ⟨h3, h4⟩
theorem info_E : (Try.prog.info? 48).map (fun i => (i.zero, i.size, i.bytes)) = some (some (.agg #[.int .i64 0, .int .i64 0, .int .i64 0, .slice none 0 0]), 4, 48) := by kernel_rfl
noncomputable def get_T17 : Bool × List (List Nat × List Nat) := rtab .any (opsOf Try.f7 17)
theorem get_tab17 : rtab .any (opsOf Try.f7 17) = get_T17 := rfl
set_option maxHeartbeats 8000000 in
set_option maxRecDepth 100000 in
theorem get_msg {w : World} {A : Option Addr} {c : Nat} {l : List Int} (hr : Kd.C (Kd.int .u8) w A l.length l) (hc : l.length ≤ c) (m : S32) (hm : wfM m) (hl : l = encM m) (hlen : l.length < 1152921504606846976) :
    Calls Try.prog 7 #[.slice A l.length c] w fun r w' => ∃ v10 v11, r = .returned (.tuple #[.agg #[.int .i64 m.f0, .int .i64 m.f1, .int .i64 m.f2, .int .i64 m.f3, .int .i64 m.f4, .int .i64 m.f5, .int .i64 m.f6, .int .i64 m.f7, .int .i64 m.f8, .bool m.f9, v10, v11], .int .i64 0]) ∧ Kd.R k48 48 w' w.heap.size (fun _ => True) v10 m.f10 ∧ Kd.R (Kd.int .u8) 5 w' w.heap.size (fun _ => True) v11 m.f11 ∧ Below w.heap.size w w' := by
  obtain ⟨f0, f1, f2, f3, f4, f5, f6, f7, f8, f9, f10, f11⟩ := m
  obtain ⟨h0, h0', h1, h1', h2, h2', ⟨h3, h3'⟩, ⟨h4, h4'⟩, ⟨h5, h5'⟩, ⟨h6, h6'⟩, ⟨h7, h7'⟩, ⟨h8, h8'⟩, h10, hE, h11⟩ := hm
  simp only at h0 h0' h1 h1' h2 h2' h3 h3' h4 h4' h5 h5' h6 h6' h7 h7' h8 h8' h10 hE h11 ⊢
  obtain ⟨b9, hb9⟩ : ∃ b : Int, b = (if f9 then 1 else 0) := ⟨_, rfl⟩
  have k9 : (b9 == 1) = f9 := by rw [hb9]; cases f9 <;> rfl
  have b9a : 0 ≤ b9 := by rw [hb9]; cases f9 <;> decide
  have b9b : b9 ≤ 1 := by rw [hb9]; cases f9 <;> decide
  unfold encM at hl
  simp only [Int.emod_eq_of_lt (show 0 ≤ f0 by omega) (show f0 < 256 by omega), Int.emod_eq_of_lt (show 0 ≤ f1 by omega) (show f1 < 256 by omega), Int.emod_eq_of_lt (show 0 ≤ f2 by omega) (show f2 < 256 by omega), ← hb9] at hl
  have e0 : l.drop 0 = f0 :: f1 :: f2 :: b9 :: (enc f3 ++ (enc f4 ++ (enc f5 ++ (enc f6 ++ (enc f7 ++ (enc f8 ++ (enc f10.length ++ (encEs f10 ++ (enc f11.length ++ f11))))))))) := by rw [hl]; rfl
  clear hl hb9
  obtain ⟨r0, q0, e1⟩ := rd_at e0
  obtain ⟨r1, q1, e2⟩ := rd_at e1
  obtain ⟨r2, q2, e3⟩ := rd_at e2
  obtain ⟨r3, q3, e4⟩ := rd_at e3
  have q4 : 0 + 1 + 1 + 1 + 1 ≤ l.length := by omega
  simp only [Nat.zero_add, Nat.reduceAdd] at r0 r1 r2 r3 q0 q1 q2 q3 q4 e4
  obtain ⟨p0, hp0⟩ : ∃ q : Nat, q = 4 + (enc f3).length := ⟨_, rfl⟩
  obtain ⟨d0, s0⟩ := drop_next e4 q4
  rw [← hp0] at d0 s0
  obtain ⟨p1, hp1⟩ : ∃ q : Nat, q = p0 + (enc f4).length := ⟨_, rfl⟩
  obtain ⟨d1, s1⟩ := drop_next d0 s0
  rw [← hp1] at d1 s1
  obtain ⟨p2, hp2⟩ : ∃ q : Nat, q = p1 + (enc f5).length := ⟨_, rfl⟩
  obtain ⟨d2, s2⟩ := drop_next d1 s1
  rw [← hp2] at d2 s2
  obtain ⟨p3, hp3⟩ : ∃ q : Nat, q = p2 + (enc f6).length := ⟨_, rfl⟩
  obtain ⟨d3, s3⟩ := drop_next d2 s2
  rw [← hp3] at d3 s3
  obtain ⟨p4, hp4⟩ : ∃ q : Nat, q = p3 + (enc f7).length := ⟨_, rfl⟩
  obtain ⟨d4, s4⟩ := drop_next d3 s3
  rw [← hp4] at d4 s4
  obtain ⟨p5, hp5⟩ : ∃ q : Nat, q = p4 + (enc f8).length := ⟨_, rfl⟩
  obtain ⟨d5, s5⟩ := drop_next d4 s4
  rw [← hp5] at d5 s5
  obtain ⟨p6, hp6⟩ : ∃ q : Nat, q = p5 + (enc f10.length).length := ⟨_, rfl⟩
  obtain ⟨d6, s6⟩ := drop_next d5 s5
  rw [← hp6] at d6 s6
  have HBY0 := Aside0.mk (show ∀ W g, Below w.heap.size w W → w.heap.size ≤ g → RdAt W g A l.length c ((0 : Nat) : Int) → _ from fun W g b hg a => rd_byte b hg hr a 1 7 f0 r0 q0 h0 h0' (by omega) (by omega) hlen)
  have HBY1 := Aside0.mk (show ∀ W g, Below w.heap.size w W → w.heap.size ≤ g → RdAt W g A l.length c ((1 : Nat) : Int) → _ from fun W g b hg a => rd_byte b hg hr a 1 9 f1 r1 q1 h1 h1' (by omega) (by omega) hlen)
  have HBY2 := Aside0.mk (show ∀ W g, Below w.heap.size w W → w.heap.size ≤ g → RdAt W g A l.length c ((2 : Nat) : Int) → _ from fun W g b hg a => rd_byte b hg hr a 1 9 f2 r2 q2 h2 h2' (by omega) (by omega) hlen)
  have HBY3 := Aside0.mk (show ∀ W g, Below w.heap.size w W → w.heap.size ≤ g → RdAt W g A l.length c ((3 : Nat) : Int) → _ from fun W g b hg a => rd_byte b hg hr a 0 1 b9 r3 q3 b9a b9b (by omega) (by omega) hlen)
  have HN0 := Aside0.mk (show ∀ W g, Below w.heap.size w W → w.heap.size ≤ g → RdAt W g A l.length c ((4 : Nat) : Int) → _ from fun W g b hg a => rd_number b hg hr a (n := f3) 0 h3 h3' h3 e4 q4 hlen)
  rw [← hp0] at HN0
  have HN1 := Aside0.mk (show ∀ W g, Below w.heap.size w W → w.heap.size ≤ g → RdAt W g A l.length c ((p0 : Nat) : Int) → _ from fun W g b hg a => rd_number b hg hr a (n := f4) 0 h4 h4' h4 d0 s0 hlen)
  rw [← hp1] at HN1
  have HN2 := Aside0.mk (show ∀ W g, Below w.heap.size w W → w.heap.size ≤ g → RdAt W g A l.length c ((p1 : Nat) : Int) → _ from fun W g b hg a => rd_number b hg hr a (n := f5) 0 h5 h5' h5 d1 s1 hlen)
  rw [← hp2] at HN2
  have HN3 := Aside0.mk (show ∀ W g, Below w.heap.size w W → w.heap.size ≤ g → RdAt W g A l.length c ((p2 : Nat) : Int) → _ from fun W g b hg a => rd_number b hg hr a (n := f6) 0 h6 h6' h6 d2 s2 hlen)
  rw [← hp3] at HN3
  have HN4 := Aside0.mk (show ∀ W g, Below w.heap.size w W → w.heap.size ≤ g → RdAt W g A l.length c ((p3 : Nat) : Int) → _ from fun W g b hg a => rd_number b hg hr a (n := f7) 0 h7 h7' h7 d3 s3 hlen)
  rw [← hp4] at HN4
  have HN5 := Aside0.mk (show ∀ W g, Below w.heap.size w W → w.heap.size ≤ g → RdAt W g A l.length c ((p4 : Nat) : Int) → _ from fun W g b hg a => rd_number b hg hr a (n := f8) 0 h8 h8' h8 d4 s4 hlen)
  rw [← hp5] at HN5
  have HN6 := Aside0.mk (show ∀ W g, Below w.heap.size w W → w.heap.size ≤ g → RdAt W g A l.length c ((p5 : Nat) : Int) → _ from fun W g b hg a => rd_number b hg hr a (n := f10.length) 0 (by omega) (by omega) (by omega) d5 s5 hlen)
  rw [← hp6] at HN6
  have HD6 := Aside0.mk d6
  have HS6 := Aside0.mk s6
  have HWE := Aside0.mk hE
  have H10 := Aside0.mk h10
  have H11 := Aside0.mk h11
  have HR := Aside0.mk hr
  have HC := Aside0.mk hc
  have HLEN := Aside0.mk hlen
  have HB := Aside0.mk (Below.refl w.heap.size w)
  have hu := Try.underlying32
  have hud := Try.underlying61
  clear hr hc hlen h0 h0' h1 h1' h2 h2' h3 h3' h4 h4' h5 h5' h6 h6' h7 h7' h8 h8' h10 hE h11 b9a b9b e0 e1 e2 e3 e4 r0 r1 r2 r3 q0 q1 q2 q3 q4 d0 s0 hp0 d1 s1 hp1 d2 s2 hp2 d3 s3 hp3 d4 s4 hp4 d5 s5 hp5 d6 s6 hp6
  go_enter_defers Try.func7, Try.ntmps7
  go_upto_region 3 with (first | ((with_reducible refine gate_dst (N := 2) rfl ?_); refine box_event ?hg (N := 2) ?hd (cs := #[.int .i64 0, .int .i64 0, .int .i64 0, .int .i64 0, .int .i64 0, .int .i64 0, .int .i64 0, .int .i64 0, .int .i64 0, .bool false, .slice none 0 0, .slice none 0 0]) (t := 32) ?hr ?_; (case hd => rfl); (case hg => rfl); (case hr => first | (go_simp; done) | (go_simp; rfl)); intro gx hg w1 hbox hb; have G_gx := Aside0.mk (by rw [hg]; exact HB.out.size : w.heap.size ≤ gx); have HNEW := Aside0.mk hbox; have n0_ := Aside0.mk (below_then HB.out HB.out.size hb); clear HB hb hbox hg; have HB := n0_; clear n0_; have H_gx := HNEW; clear HNEW) | ((with_reducible refine gate_dst (N := 3) rfl ?_); refine box_event ?hg (N := 3) ?hd (cs := #[.int .i64 0]) (t := 26) ?hr ?_; (case hd => rfl); (case hg => rfl); (case hr => first | (go_simp; done) | (go_simp; rfl)); intro ge hg w2 hbox hb; have L_gx_ge := Aside0.mk (by rw [hg]; exact blk_lt H_gx.out : gx < ge); have G_ge := Aside0.mk (by rw [hg]; exact HB.out.size : w.heap.size ≤ ge); have HNEW := Aside0.mk hbox; have n0_ := Aside0.mk (blk_below H_gx.out hb); have n1_ := Aside0.mk (below_then HB.out HB.out.size hb); clear H_gx HB hb hbox hg; have H_gx := n0_; have HB := n1_; clear n0_ n1_; have H_ge := HNEW; clear HNEW) | ((with_reducible refine gate_dst (N := 11) rfl ?_); refine box_event ?hg (N := 11) ?hd (cs := #[.slice A l.length c, .int .i64 0]) (t := 61) ?hr ?_; (case hd => rfl); (case hg => rfl); (case hr => first | (go_simp; done) | (go_simp; rfl)); intro gr hg w3 hbox hb; have L_gx_gr := Aside0.mk (by rw [hg]; exact blk_lt H_gx.out : gx < gr); have L_ge_gr := Aside0.mk (by rw [hg]; exact blk_lt H_ge.out : ge < gr); have G_gr := Aside0.mk (by rw [hg]; exact HB.out.size : w.heap.size ≤ gr); have HNEW := Aside0.mk hbox; have n0_ := Aside0.mk (blk_below H_gx.out hb); have n1_ := Aside0.mk (blk_below H_ge.out hb); have n2_ := Aside0.mk (below_then HB.out HB.out.size hb); clear H_gx H_ge HB hb hbox hg; have H_gx := n0_; have H_ge := n1_; have HB := n2_; clear n0_ n1_ n2_; have H_gr := HNEW; clear HNEW))
  go_upto_region 4 with ((with_reducible refine gate_dst (N := 5) rfl ?_); refine box_event ?hg (N := 5) ?hd (cs := #[.int .i64 0, .int .i64 0, .int .i64 0, .int .i64 0, .int .i64 0, .int .i64 0, .int .i64 0, .int .i64 0, .int .i64 0, .bool false, .slice none 0 0, .slice none 0 0]) (t := 32) ?hr ?_; (case hd => rfl); (case hg => rfl); (case hr => first | (go_simp; done) | (go_simp; rfl)); intro gm hg w4 hbox hb; have L_gx_gm := Aside0.mk (by rw [hg]; exact blk_lt H_gx.out : gx < gm); have L_ge_gm := Aside0.mk (by rw [hg]; exact blk_lt H_ge.out : ge < gm); have L_gr_gm := Aside0.mk (by rw [hg]; exact blk_lt H_gr.out : gr < gm); have G_gm := Aside0.mk (by rw [hg]; exact HB.out.size : w.heap.size ≤ gm); have HNEW := Aside0.mk hbox; have n0_ := Aside0.mk (blk_below H_gx.out hb); have n1_ := Aside0.mk (blk_below H_ge.out hb); have n2_ := Aside0.mk (blk_below H_gr.out hb); have n3_ := Aside0.mk (below_then HB.out HB.out.size hb); clear H_gx H_ge H_gr HB hb hbox hg; have H_gx := n0_; have H_ge := n1_; have H_gr := n2_; have HB := n3_; clear n0_ n1_ n2_ n3_; have H_gm := HNEW; clear HNEW)
  go_upto_region 5 with (go_at_call 19; refine (HBY0.out _ gr HB.out G_gr.out H_gr.out).mono ?_; rintro r w5 ⟨rfl, hA2, hB2, hK2⟩; have n0_ := Aside0.mk (keep_blk H_gx.out hK2 (Nat.ne_of_lt L_gx_gr.out)); have n1_ := Aside0.mk (keep_blk H_ge.out hK2 (Nat.ne_of_lt L_ge_gr.out)); have n2_ := Aside0.mk (keep_blk H_gm.out hK2 (Nat.ne_of_gt L_gr_gm.out)); have n3_ := Aside0.mk (hA2); have n4_ := Aside0.mk (hB2); clear H_gx H_ge H_gm H_gr HB hA2 hB2 hK2; have H_gx := n0_; have H_ge := n1_; have H_gm := n2_; have H_gr := n3_; have HB := n4_; clear n0_ n1_ n2_ n3_ n4_; have kgm0 : w5.cell? ⟨gm, 0, none⟩ = some (.int .i64 0) := (blk_cell H_gm.out 0).trans rfl; have ugm0 := blk_frozen H_gm.out 0)
  have n0_ := Aside0.mk ((show (w5.setCell ⟨gm, 0, none⟩ (.int .i64 f0)).heap[gm]? = some (.cells #[.int .i64 f0, .int .i64 0, .int .i64 0, .int .i64 0, .int .i64 0, .int .i64 0, .int .i64 0, .int .i64 0, .int .i64 0, .bool false, .slice none 0 0, .slice none 0 0] 32 (0, 0)) from (blk_put H_gm.out 0 (.int .i64 f0) rfl)))
  have n1_ := Aside0.mk ((blk_far (p := ⟨gm, 0, none⟩) H_gx.out (Nat.ne_of_lt L_gx_gm.out) (.int .i64 f0)))
  have n2_ := Aside0.mk ((blk_far (p := ⟨gm, 0, none⟩) H_ge.out (Nat.ne_of_lt L_ge_gm.out) (.int .i64 f0)))
  have n3_ := Aside0.mk ((blk_far (p := ⟨gm, 0, none⟩) H_gr.out (Nat.ne_of_lt L_gr_gm.out) (.int .i64 f0)))
  have n4_ := Aside0.mk ((below_set (j := 0) (v := .int .i64 f0) HB.out G_gm.out))
  clear H_gm H_gx H_ge H_gr HB kgm0 ugm0
  have H_gm := n0_
  have H_gx := n1_
  have H_ge := n2_
  have H_gr := n3_
  have HB := n4_
  clear n0_ n1_ n2_ n3_ n4_
  generalize (w5.setCell ⟨gm, 0, none⟩ (.int .i64 f0)) = w6 at H_gm H_gx H_ge H_gr HB ⊢
  go_upto_region 6 with (first | (go_at_call 19; refine (HBY1.out _ gr HB.out G_gr.out H_gr.out).mono ?_; rintro r w7 ⟨rfl, hA2, hB2, hK2⟩; have n0_ := Aside0.mk (keep_blk H_gx.out hK2 (Nat.ne_of_lt L_gx_gr.out)); have n1_ := Aside0.mk (keep_blk H_ge.out hK2 (Nat.ne_of_lt L_ge_gr.out)); have n2_ := Aside0.mk (keep_blk H_gm.out hK2 (Nat.ne_of_gt L_gr_gm.out)); have n3_ := Aside0.mk (hA2); have n4_ := Aside0.mk (hB2); clear H_gx H_ge H_gm H_gr HB hA2 hB2 hK2; have H_gx := n0_; have H_ge := n1_; have H_gm := n2_; have H_gr := n3_; have HB := n4_; clear n0_ n1_ n2_ n3_ n4_) | (go_at_call 19; refine (HBY2.out _ gr HB.out G_gr.out H_gr.out).mono ?_; rintro r w8 ⟨rfl, hA2, hB2, hK2⟩; have n0_ := Aside0.mk (keep_blk H_gx.out hK2 (Nat.ne_of_lt L_gx_gr.out)); have n1_ := Aside0.mk (keep_blk H_ge.out hK2 (Nat.ne_of_lt L_ge_gr.out)); have n2_ := Aside0.mk (keep_blk H_gm.out hK2 (Nat.ne_of_gt L_gr_gm.out)); have n3_ := Aside0.mk (hA2); have n4_ := Aside0.mk (hB2); clear H_gx H_ge H_gm H_gr HB hA2 hB2 hK2; have H_gx := n0_; have H_ge := n1_; have H_gm := n2_; have H_gr := n3_; have HB := n4_; clear n0_ n1_ n2_ n3_ n4_; have kgm1 : w8.cell? ⟨gm, 1, none⟩ = some (.int .i64 0) := (blk_cell H_gm.out 1).trans rfl; have ugm1 := blk_frozen H_gm.out 1; have kgm2 : w8.cell? ⟨gm, 2, none⟩ = some (.int .i64 0) := (blk_cell H_gm.out 2).trans rfl; have ugm2 := blk_frozen H_gm.out 2))
  have n0_ := Aside0.mk ((show ((w8.setCell ⟨gm, 1, none⟩ (.int .i64 f1)).setCell ⟨gm, 2, none⟩ (.int .i64 f2)).heap[gm]? = some (.cells #[.int .i64 f0, .int .i64 f1, .int .i64 f2, .int .i64 0, .int .i64 0, .int .i64 0, .int .i64 0, .int .i64 0, .int .i64 0, .bool false, .slice none 0 0, .slice none 0 0] 32 (0, 0)) from (blk_put (blk_put H_gm.out 1 (.int .i64 f1) rfl) 2 (.int .i64 f2) rfl)))
  have n1_ := Aside0.mk ((blk_far (p := ⟨gm, 2, none⟩) (blk_far (p := ⟨gm, 1, none⟩) H_gx.out (Nat.ne_of_lt L_gx_gm.out) (.int .i64 f1)) (Nat.ne_of_lt L_gx_gm.out) (.int .i64 f2)))
  have n2_ := Aside0.mk ((blk_far (p := ⟨gm, 2, none⟩) (blk_far (p := ⟨gm, 1, none⟩) H_ge.out (Nat.ne_of_lt L_ge_gm.out) (.int .i64 f1)) (Nat.ne_of_lt L_ge_gm.out) (.int .i64 f2)))
  have n3_ := Aside0.mk ((blk_far (p := ⟨gm, 2, none⟩) (blk_far (p := ⟨gm, 1, none⟩) H_gr.out (Nat.ne_of_lt L_gr_gm.out) (.int .i64 f1)) (Nat.ne_of_lt L_gr_gm.out) (.int .i64 f2)))
  have n4_ := Aside0.mk ((below_set (j := 2) (v := .int .i64 f2) (below_set (j := 1) (v := .int .i64 f1) HB.out G_gm.out) G_gm.out))
  clear H_gm H_gx H_ge H_gr HB kgm1 ugm1 kgm2 ugm2
  have H_gm := n0_
  have H_gx := n1_
  have H_ge := n2_
  have H_gr := n3_
  have HB := n4_
  clear n0_ n1_ n2_ n3_ n4_
  generalize ((w8.setCell ⟨gm, 1, none⟩ (.int .i64 f1)).setCell ⟨gm, 2, none⟩ (.int .i64 f2)) = w9 at H_gm H_gx H_ge H_gr HB ⊢
  go_upto_region 7 with (go_at_call 19; refine (HBY3.out _ gr HB.out G_gr.out H_gr.out).mono ?_; rintro r w10 ⟨rfl, hA2, hB2, hK2⟩; have n0_ := Aside0.mk (keep_blk H_gx.out hK2 (Nat.ne_of_lt L_gx_gr.out)); have n1_ := Aside0.mk (keep_blk H_ge.out hK2 (Nat.ne_of_lt L_ge_gr.out)); have n2_ := Aside0.mk (keep_blk H_gm.out hK2 (Nat.ne_of_gt L_gr_gm.out)); have n3_ := Aside0.mk (hA2); have n4_ := Aside0.mk (hB2); clear H_gx H_ge H_gm H_gr HB hA2 hB2 hK2; have H_gx := n0_; have H_ge := n1_; have H_gm := n2_; have H_gr := n3_; have HB := n4_; clear n0_ n1_ n2_ n3_ n4_; have kgm9 : w10.cell? ⟨gm, 9, none⟩ = some (.bool false) := (blk_cell H_gm.out 9).trans rfl; have ugm9 := blk_frozen H_gm.out 9)
  have n0_ := Aside0.mk ((show (w10.setCell ⟨gm, 9, none⟩ (.bool f9)).heap[gm]? = some (.cells #[.int .i64 f0, .int .i64 f1, .int .i64 f2, .int .i64 0, .int .i64 0, .int .i64 0, .int .i64 0, .int .i64 0, .int .i64 0, .bool f9, .slice none 0 0, .slice none 0 0] 32 (0, 0)) from (blk_put H_gm.out 9 (.bool f9) rfl)))
  have n1_ := Aside0.mk ((blk_far (p := ⟨gm, 9, none⟩) H_gx.out (Nat.ne_of_lt L_gx_gm.out) (.bool f9)))
  have n2_ := Aside0.mk ((blk_far (p := ⟨gm, 9, none⟩) H_ge.out (Nat.ne_of_lt L_ge_gm.out) (.bool f9)))
  have n3_ := Aside0.mk ((blk_far (p := ⟨gm, 9, none⟩) H_gr.out (Nat.ne_of_lt L_gr_gm.out) (.bool f9)))
  have n4_ := Aside0.mk ((below_set (j := 9) (v := .bool f9) HB.out G_gm.out))
  clear H_gm H_gx H_ge H_gr HB kgm9 ugm9
  have H_gm := n0_
  have H_gx := n1_
  have H_ge := n2_
  have H_gr := n3_
  have HB := n4_
  clear n0_ n1_ n2_ n3_ n4_
  generalize (w10.setCell ⟨gm, 9, none⟩ (.bool f9)) = w11 at H_gm H_gx H_ge H_gr HB ⊢
  go_wp2_with (fail)
  obtain ⟨gp, hgp⟩ : ∃ gp : Nat, gp = w11.heap.size := ⟨_, rfl⟩
  rw [← hgp]
  have L_gx_gp := Aside0.mk (by rw [hgp]; exact blk_lt H_gx.out : gx < gp)
  have L_ge_gp := Aside0.mk (by rw [hgp]; exact blk_lt H_ge.out : ge < gp)
  have L_gr_gp := Aside0.mk (by rw [hgp]; exact blk_lt H_gr.out : gr < gp)
  have L_gm_gp := Aside0.mk (by rw [hgp]; exact blk_lt H_gm.out : gm < gp)
  have G_gp := Aside0.mk (by rw [hgp]; exact HB.out.size : w.heap.size ≤ gp)
  have H_gp := Aside0.mk (by rw [hgp]; exact blk_new w11 _ : (w11.alloc (.cells #[.pointer (some ⟨gm, 3, none⟩), .pointer (some ⟨gm, 4, none⟩), .pointer (some ⟨gm, 5, none⟩), .pointer (some ⟨gm, 6, none⟩), .pointer (some ⟨gm, 7, none⟩), .pointer (some ⟨gm, 8, none⟩)] 63 (0, 0))).heap[gp]? = some (.cells #[.pointer (some ⟨gm, 3, none⟩), .pointer (some ⟨gm, 4, none⟩), .pointer (some ⟨gm, 5, none⟩), .pointer (some ⟨gm, 6, none⟩), .pointer (some ⟨gm, 7, none⟩), .pointer (some ⟨gm, 8, none⟩)] 63 (0, 0)))
  have n0_ := Aside0.mk (blk_alloc H_gx.out (.cells #[.pointer (some ⟨gm, 3, none⟩), .pointer (some ⟨gm, 4, none⟩), .pointer (some ⟨gm, 5, none⟩), .pointer (some ⟨gm, 6, none⟩), .pointer (some ⟨gm, 7, none⟩), .pointer (some ⟨gm, 8, none⟩)] 63 (0, 0)))
  have n1_ := Aside0.mk (blk_alloc H_ge.out (.cells #[.pointer (some ⟨gm, 3, none⟩), .pointer (some ⟨gm, 4, none⟩), .pointer (some ⟨gm, 5, none⟩), .pointer (some ⟨gm, 6, none⟩), .pointer (some ⟨gm, 7, none⟩), .pointer (some ⟨gm, 8, none⟩)] 63 (0, 0)))
  have n2_ := Aside0.mk (blk_alloc H_gr.out (.cells #[.pointer (some ⟨gm, 3, none⟩), .pointer (some ⟨gm, 4, none⟩), .pointer (some ⟨gm, 5, none⟩), .pointer (some ⟨gm, 6, none⟩), .pointer (some ⟨gm, 7, none⟩), .pointer (some ⟨gm, 8, none⟩)] 63 (0, 0)))
  have n3_ := Aside0.mk (blk_alloc H_gm.out (.cells #[.pointer (some ⟨gm, 3, none⟩), .pointer (some ⟨gm, 4, none⟩), .pointer (some ⟨gm, 5, none⟩), .pointer (some ⟨gm, 6, none⟩), .pointer (some ⟨gm, 7, none⟩), .pointer (some ⟨gm, 8, none⟩)] 63 (0, 0)))
  have n4_ := Aside0.mk (below_alloc HB.out (.cells #[.pointer (some ⟨gm, 3, none⟩), .pointer (some ⟨gm, 4, none⟩), .pointer (some ⟨gm, 5, none⟩), .pointer (some ⟨gm, 6, none⟩), .pointer (some ⟨gm, 7, none⟩), .pointer (some ⟨gm, 8, none⟩)] 63 (0, 0)))
  clear hgp H_gx H_ge H_gr H_gm HB
  have H_gx := n0_
  have H_ge := n1_
  have H_gr := n2_
  have H_gm := n3_
  have HB := n4_
  clear n0_ n1_ n2_ n3_ n4_
  generalize w11.alloc (.cells #[.pointer (some ⟨gm, 3, none⟩), .pointer (some ⟨gm, 4, none⟩), .pointer (some ⟨gm, 5, none⟩), .pointer (some ⟨gm, 6, none⟩), .pointer (some ⟨gm, 7, none⟩), .pointer (some ⟨gm, 8, none⟩)] 63 (0, 0)) = w12 at H_gp H_gx H_ge H_gr H_gm HB ⊢
  go_loopg [33] 6 (fun n v33 W => ∃ i : Nat, v33 = .int .i64 (i : Int) ∧ Aside0 (n + i = 6) ∧ Aside0 (W.heap[gx]? = some (.cells #[.int .i64 0, .int .i64 0, .int .i64 0, .int .i64 0, .int .i64 0, .int .i64 0, .int .i64 0, .int .i64 0, .int .i64 0, .bool false, .slice none 0 0, .slice none 0 0] 32 (0, 0))) ∧ Aside0 (W.heap[ge]? = some (.cells #[.int .i64 0] 26 (0, 0))) ∧ Aside0 (W.heap[gr]? = some (.cells #[.slice A l.length c, .int .i64 (((posn i 4 p0 p1 p2 p3 p4 p5) : Nat) : Int)] 61 (0, 0))) ∧ Aside0 (W.heap[gm]? = some (.cells #[.int .i64 f0, .int .i64 f1, .int .i64 f2, .int .i64 (sel i 0 f3), .int .i64 (sel i 1 f4), .int .i64 (sel i 2 f5), .int .i64 (sel i 3 f6), .int .i64 (sel i 4 f7), .int .i64 (sel i 5 f8), .bool f9, .slice none 0 0, .slice none 0 0] 32 (0, 0))) ∧ Aside0 (W.heap[gp]? = some (.cells #[.pointer (some ⟨gm, 3, none⟩), .pointer (some ⟨gm, 4, none⟩), .pointer (some ⟨gm, 5, none⟩), .pointer (some ⟨gm, 6, none⟩), .pointer (some ⟨gm, 7, none⟩), .pointer (some ⟨gm, 8, none⟩)] 63 (0, 0))) ∧ Aside0 (Below w.heap.size w W))
  case atStart => exact ⟨0, rfl, ⟨rfl⟩, ⟨H_gx.out⟩, ⟨H_ge.out⟩, ⟨H_gr.out⟩, ⟨H_gm.out⟩, ⟨H_gp.out⟩, ⟨HB.out⟩⟩
  case round =>
    clear H_gx H_ge H_gr H_gm H_gp HB
    obtain ⟨i, rfl, HI, H_gx, H_ge, H_gr, H_gm, H_gp, HB⟩ := hrel
    obtain h | h | h | h | h | h | h := (by have := HI.out; omega : i = 0 ∨ i = 1 ∨ i = 2 ∨ i = 3 ∨ i = 4 ∨ i = 5 ∨ i = 6)
    · -- 0
      subst h
      obtain rfl : gk = 6 := by have := HI.out; omega
      clear HI
      have n0_ : Aside0 (wr.heap[gm]? = some (.cells #[.int .i64 f0, .int .i64 f1, .int .i64 f2, .int .i64 0, .int .i64 0, .int .i64 0, .int .i64 0, .int .i64 0, .int .i64 0, .bool f9, .slice none 0 0, .slice none 0 0] 32 (0, 0))) := ⟨H_gm.out⟩
      have n1_ : Aside0 (wr.heap[gr]? = some (.cells #[.slice A l.length c, .int .i64 ((4 : Nat) : Int)] 61 (0, 0))) := ⟨H_gr.out⟩
      clear H_gm H_gr
      have H_gm := n0_
      have H_gr := n1_
      clear n0_ n1_
      have kgp := (show wr.cell? ⟨gp, 0, none⟩ = some (.pointer (some ⟨gm, 3, none⟩)) from (blk_cell H_gp.out 0).trans rfl)
      go_wp2_with (go_at_call 20; refine (HN0.out _ gr HB.out G_gr.out H_gr.out).mono ?_; rintro r w13 ⟨rfl, hA2, hB2, hK2⟩; have n0_ := Aside0.mk (keep_blk H_gx.out hK2 (Nat.ne_of_lt L_gx_gr.out)); have n1_ := Aside0.mk (keep_blk H_ge.out hK2 (Nat.ne_of_lt L_ge_gr.out)); have n2_ := Aside0.mk (keep_blk H_gm.out hK2 (Nat.ne_of_gt L_gr_gm.out)); have n3_ := Aside0.mk (keep_blk H_gp.out hK2 (Nat.ne_of_gt L_gr_gp.out)); have n4_ := Aside0.mk (hA2); have n5_ := Aside0.mk (hB2); clear H_gx H_ge H_gm H_gp H_gr HB hA2 hB2 hK2; have H_gx := n0_; have H_ge := n1_; have H_gm := n2_; have H_gp := n3_; have H_gr := n4_; have HB := n5_; clear n0_ n1_ n2_ n3_ n4_ n5_; have kgm3 : w13.cell? ⟨gm, 3, none⟩ = some (.int .i64 0) := (blk_cell H_gm.out 3).trans rfl; have ugm3 := blk_frozen H_gm.out 3; clear kgp)
      have n0_ := Aside0.mk ((show (w13.setCell ⟨gm, 3, none⟩ (.int .i64 f3)).heap[gm]? = some (.cells #[.int .i64 f0, .int .i64 f1, .int .i64 f2, .int .i64 f3, .int .i64 0, .int .i64 0, .int .i64 0, .int .i64 0, .int .i64 0, .bool f9, .slice none 0 0, .slice none 0 0] 32 (0, 0)) from (blk_put H_gm.out 3 (.int .i64 f3) rfl)))
      have n1_ := Aside0.mk ((blk_far (p := ⟨gm, 3, none⟩) H_gx.out (Nat.ne_of_lt L_gx_gm.out) (.int .i64 f3)))
      have n2_ := Aside0.mk ((blk_far (p := ⟨gm, 3, none⟩) H_ge.out (Nat.ne_of_lt L_ge_gm.out) (.int .i64 f3)))
      have n3_ := Aside0.mk ((blk_far (p := ⟨gm, 3, none⟩) H_gr.out (Nat.ne_of_lt L_gr_gm.out) (.int .i64 f3)))
      have n4_ := Aside0.mk ((blk_far (p := ⟨gm, 3, none⟩) H_gp.out (Nat.ne_of_gt L_gm_gp.out) (.int .i64 f3)))
      have n5_ := Aside0.mk ((below_set (j := 3) (v := .int .i64 f3) HB.out G_gm.out))
      clear H_gm H_gx H_ge H_gr H_gp HB kgm3 ugm3
      have H_gm := n0_
      have H_gx := n1_
      have H_ge := n2_
      have H_gr := n3_
      have H_gp := n4_
      have HB := n5_
      clear n0_ n1_ n2_ n3_ n4_ n5_
      generalize (w13.setCell ⟨gm, 3, none⟩ (.int .i64 f3)) = w14 at H_gm H_gx H_ge H_gr H_gp HB ⊢
      go_roundg 5
      case measure => omega
      case rel => exact ⟨1, rfl, ⟨rfl⟩, ⟨H_gx.out⟩, ⟨H_ge.out⟩, ⟨H_gr.out⟩, ⟨H_gm.out⟩, ⟨H_gp.out⟩, ⟨HB.out⟩⟩
    · -- 1
      subst h
      obtain rfl : gk = 5 := by have := HI.out; omega
      clear HI
      have n0_ : Aside0 (wr.heap[gm]? = some (.cells #[.int .i64 f0, .int .i64 f1, .int .i64 f2, .int .i64 f3, .int .i64 0, .int .i64 0, .int .i64 0, .int .i64 0, .int .i64 0, .bool f9, .slice none 0 0, .slice none 0 0] 32 (0, 0))) := ⟨H_gm.out⟩
      have n1_ : Aside0 (wr.heap[gr]? = some (.cells #[.slice A l.length c, .int .i64 ((p0 : Nat) : Int)] 61 (0, 0))) := ⟨H_gr.out⟩
      clear H_gm H_gr
      have H_gm := n0_
      have H_gr := n1_
      clear n0_ n1_
      have kgp := (show wr.cell? ⟨gp, 1, none⟩ = some (.pointer (some ⟨gm, 4, none⟩)) from (blk_cell H_gp.out 1).trans rfl)
      go_wp2_with (go_at_call 20; refine (HN1.out _ gr HB.out G_gr.out H_gr.out).mono ?_; rintro r w13 ⟨rfl, hA2, hB2, hK2⟩; have n0_ := Aside0.mk (keep_blk H_gx.out hK2 (Nat.ne_of_lt L_gx_gr.out)); have n1_ := Aside0.mk (keep_blk H_ge.out hK2 (Nat.ne_of_lt L_ge_gr.out)); have n2_ := Aside0.mk (keep_blk H_gm.out hK2 (Nat.ne_of_gt L_gr_gm.out)); have n3_ := Aside0.mk (keep_blk H_gp.out hK2 (Nat.ne_of_gt L_gr_gp.out)); have n4_ := Aside0.mk (hA2); have n5_ := Aside0.mk (hB2); clear H_gx H_ge H_gm H_gp H_gr HB hA2 hB2 hK2; have H_gx := n0_; have H_ge := n1_; have H_gm := n2_; have H_gp := n3_; have H_gr := n4_; have HB := n5_; clear n0_ n1_ n2_ n3_ n4_ n5_; have kgm4 : w13.cell? ⟨gm, 4, none⟩ = some (.int .i64 0) := (blk_cell H_gm.out 4).trans rfl; have ugm4 := blk_frozen H_gm.out 4; clear kgp)
      have n0_ := Aside0.mk ((show (w13.setCell ⟨gm, 4, none⟩ (.int .i64 f4)).heap[gm]? = some (.cells #[.int .i64 f0, .int .i64 f1, .int .i64 f2, .int .i64 f3, .int .i64 f4, .int .i64 0, .int .i64 0, .int .i64 0, .int .i64 0, .bool f9, .slice none 0 0, .slice none 0 0] 32 (0, 0)) from (blk_put H_gm.out 4 (.int .i64 f4) rfl)))
      have n1_ := Aside0.mk ((blk_far (p := ⟨gm, 4, none⟩) H_gx.out (Nat.ne_of_lt L_gx_gm.out) (.int .i64 f4)))
      have n2_ := Aside0.mk ((blk_far (p := ⟨gm, 4, none⟩) H_ge.out (Nat.ne_of_lt L_ge_gm.out) (.int .i64 f4)))
      have n3_ := Aside0.mk ((blk_far (p := ⟨gm, 4, none⟩) H_gr.out (Nat.ne_of_lt L_gr_gm.out) (.int .i64 f4)))
      have n4_ := Aside0.mk ((blk_far (p := ⟨gm, 4, none⟩) H_gp.out (Nat.ne_of_gt L_gm_gp.out) (.int .i64 f4)))
      have n5_ := Aside0.mk ((below_set (j := 4) (v := .int .i64 f4) HB.out G_gm.out))
      clear H_gm H_gx H_ge H_gr H_gp HB kgm4 ugm4
      have H_gm := n0_
      have H_gx := n1_
      have H_ge := n2_
      have H_gr := n3_
      have H_gp := n4_
      have HB := n5_
      clear n0_ n1_ n2_ n3_ n4_ n5_
      generalize (w13.setCell ⟨gm, 4, none⟩ (.int .i64 f4)) = w14 at H_gm H_gx H_ge H_gr H_gp HB ⊢
      go_roundg 4
      case measure => omega
      case rel => exact ⟨2, rfl, ⟨rfl⟩, ⟨H_gx.out⟩, ⟨H_ge.out⟩, ⟨H_gr.out⟩, ⟨H_gm.out⟩, ⟨H_gp.out⟩, ⟨HB.out⟩⟩
    · -- 2
      subst h
      obtain rfl : gk = 4 := by have := HI.out; omega
      clear HI
      have n0_ : Aside0 (wr.heap[gm]? = some (.cells #[.int .i64 f0, .int .i64 f1, .int .i64 f2, .int .i64 f3, .int .i64 f4, .int .i64 0, .int .i64 0, .int .i64 0, .int .i64 0, .bool f9, .slice none 0 0, .slice none 0 0] 32 (0, 0))) := ⟨H_gm.out⟩
      have n1_ : Aside0 (wr.heap[gr]? = some (.cells #[.slice A l.length c, .int .i64 ((p1 : Nat) : Int)] 61 (0, 0))) := ⟨H_gr.out⟩
      clear H_gm H_gr
      have H_gm := n0_
      have H_gr := n1_
      clear n0_ n1_
      have kgp := (show wr.cell? ⟨gp, 2, none⟩ = some (.pointer (some ⟨gm, 5, none⟩)) from (blk_cell H_gp.out 2).trans rfl)
      go_wp2_with (go_at_call 20; refine (HN2.out _ gr HB.out G_gr.out H_gr.out).mono ?_; rintro r w13 ⟨rfl, hA2, hB2, hK2⟩; have n0_ := Aside0.mk (keep_blk H_gx.out hK2 (Nat.ne_of_lt L_gx_gr.out)); have n1_ := Aside0.mk (keep_blk H_ge.out hK2 (Nat.ne_of_lt L_ge_gr.out)); have n2_ := Aside0.mk (keep_blk H_gm.out hK2 (Nat.ne_of_gt L_gr_gm.out)); have n3_ := Aside0.mk (keep_blk H_gp.out hK2 (Nat.ne_of_gt L_gr_gp.out)); have n4_ := Aside0.mk (hA2); have n5_ := Aside0.mk (hB2); clear H_gx H_ge H_gm H_gp H_gr HB hA2 hB2 hK2; have H_gx := n0_; have H_ge := n1_; have H_gm := n2_; have H_gp := n3_; have H_gr := n4_; have HB := n5_; clear n0_ n1_ n2_ n3_ n4_ n5_; have kgm5 : w13.cell? ⟨gm, 5, none⟩ = some (.int .i64 0) := (blk_cell H_gm.out 5).trans rfl; have ugm5 := blk_frozen H_gm.out 5; clear kgp)
      have n0_ := Aside0.mk ((show (w13.setCell ⟨gm, 5, none⟩ (.int .i64 f5)).heap[gm]? = some (.cells #[.int .i64 f0, .int .i64 f1, .int .i64 f2, .int .i64 f3, .int .i64 f4, .int .i64 f5, .int .i64 0, .int .i64 0, .int .i64 0, .bool f9, .slice none 0 0, .slice none 0 0] 32 (0, 0)) from (blk_put H_gm.out 5 (.int .i64 f5) rfl)))
      have n1_ := Aside0.mk ((blk_far (p := ⟨gm, 5, none⟩) H_gx.out (Nat.ne_of_lt L_gx_gm.out) (.int .i64 f5)))
      have n2_ := Aside0.mk ((blk_far (p := ⟨gm, 5, none⟩) H_ge.out (Nat.ne_of_lt L_ge_gm.out) (.int .i64 f5)))
      have n3_ := Aside0.mk ((blk_far (p := ⟨gm, 5, none⟩) H_gr.out (Nat.ne_of_lt L_gr_gm.out) (.int .i64 f5)))
      have n4_ := Aside0.mk ((blk_far (p := ⟨gm, 5, none⟩) H_gp.out (Nat.ne_of_gt L_gm_gp.out) (.int .i64 f5)))
      have n5_ := Aside0.mk ((below_set (j := 5) (v := .int .i64 f5) HB.out G_gm.out))
      clear H_gm H_gx H_ge H_gr H_gp HB kgm5 ugm5
      have H_gm := n0_
      have H_gx := n1_
      have H_ge := n2_
      have H_gr := n3_
      have H_gp := n4_
      have HB := n5_
      clear n0_ n1_ n2_ n3_ n4_ n5_
      generalize (w13.setCell ⟨gm, 5, none⟩ (.int .i64 f5)) = w14 at H_gm H_gx H_ge H_gr H_gp HB ⊢
      go_roundg 3
      case measure => omega
      case rel => exact ⟨3, rfl, ⟨rfl⟩, ⟨H_gx.out⟩, ⟨H_ge.out⟩, ⟨H_gr.out⟩, ⟨H_gm.out⟩, ⟨H_gp.out⟩, ⟨HB.out⟩⟩
    · -- 3
      subst h
      obtain rfl : gk = 3 := by have := HI.out; omega
      clear HI
      have n0_ : Aside0 (wr.heap[gm]? = some (.cells #[.int .i64 f0, .int .i64 f1, .int .i64 f2, .int .i64 f3, .int .i64 f4, .int .i64 f5, .int .i64 0, .int .i64 0, .int .i64 0, .bool f9, .slice none 0 0, .slice none 0 0] 32 (0, 0))) := ⟨H_gm.out⟩
      have n1_ : Aside0 (wr.heap[gr]? = some (.cells #[.slice A l.length c, .int .i64 ((p2 : Nat) : Int)] 61 (0, 0))) := ⟨H_gr.out⟩
      clear H_gm H_gr
      have H_gm := n0_
      have H_gr := n1_
      clear n0_ n1_
      have kgp := (show wr.cell? ⟨gp, 3, none⟩ = some (.pointer (some ⟨gm, 6, none⟩)) from (blk_cell H_gp.out 3).trans rfl)
      go_wp2_with (go_at_call 20; refine (HN3.out _ gr HB.out G_gr.out H_gr.out).mono ?_; rintro r w13 ⟨rfl, hA2, hB2, hK2⟩; have n0_ := Aside0.mk (keep_blk H_gx.out hK2 (Nat.ne_of_lt L_gx_gr.out)); have n1_ := Aside0.mk (keep_blk H_ge.out hK2 (Nat.ne_of_lt L_ge_gr.out)); have n2_ := Aside0.mk (keep_blk H_gm.out hK2 (Nat.ne_of_gt L_gr_gm.out)); have n3_ := Aside0.mk (keep_blk H_gp.out hK2 (Nat.ne_of_gt L_gr_gp.out)); have n4_ := Aside0.mk (hA2); have n5_ := Aside0.mk (hB2); clear H_gx H_ge H_gm H_gp H_gr HB hA2 hB2 hK2; have H_gx := n0_; have H_ge := n1_; have H_gm := n2_; have H_gp := n3_; have H_gr := n4_; have HB := n5_; clear n0_ n1_ n2_ n3_ n4_ n5_; have kgm6 : w13.cell? ⟨gm, 6, none⟩ = some (.int .i64 0) := (blk_cell H_gm.out 6).trans rfl; have ugm6 := blk_frozen H_gm.out 6; clear kgp)
      have n0_ := Aside0.mk ((show (w13.setCell ⟨gm, 6, none⟩ (.int .i64 f6)).heap[gm]? = some (.cells #[.int .i64 f0, .int .i64 f1, .int .i64 f2, .int .i64 f3, .int .i64 f4, .int .i64 f5, .int .i64 f6, .int .i64 0, .int .i64 0, .bool f9, .slice none 0 0, .slice none 0 0] 32 (0, 0)) from (blk_put H_gm.out 6 (.int .i64 f6) rfl)))
      have n1_ := Aside0.mk ((blk_far (p := ⟨gm, 6, none⟩) H_gx.out (Nat.ne_of_lt L_gx_gm.out) (.int .i64 f6)))
      have n2_ := Aside0.mk ((blk_far (p := ⟨gm, 6, none⟩) H_ge.out (Nat.ne_of_lt L_ge_gm.out) (.int .i64 f6)))
      have n3_ := Aside0.mk ((blk_far (p := ⟨gm, 6, none⟩) H_gr.out (Nat.ne_of_lt L_gr_gm.out) (.int .i64 f6)))
      have n4_ := Aside0.mk ((blk_far (p := ⟨gm, 6, none⟩) H_gp.out (Nat.ne_of_gt L_gm_gp.out) (.int .i64 f6)))
      have n5_ := Aside0.mk ((below_set (j := 6) (v := .int .i64 f6) HB.out G_gm.out))
      clear H_gm H_gx H_ge H_gr H_gp HB kgm6 ugm6
      have H_gm := n0_
      have H_gx := n1_
      have H_ge := n2_
      have H_gr := n3_
      have H_gp := n4_
      have HB := n5_
      clear n0_ n1_ n2_ n3_ n4_ n5_
      generalize (w13.setCell ⟨gm, 6, none⟩ (.int .i64 f6)) = w14 at H_gm H_gx H_ge H_gr H_gp HB ⊢
      go_roundg 2
      case measure => omega
      case rel => exact ⟨4, rfl, ⟨rfl⟩, ⟨H_gx.out⟩, ⟨H_ge.out⟩, ⟨H_gr.out⟩, ⟨H_gm.out⟩, ⟨H_gp.out⟩, ⟨HB.out⟩⟩
    · -- 4
      subst h
      obtain rfl : gk = 2 := by have := HI.out; omega
      clear HI
      have n0_ : Aside0 (wr.heap[gm]? = some (.cells #[.int .i64 f0, .int .i64 f1, .int .i64 f2, .int .i64 f3, .int .i64 f4, .int .i64 f5, .int .i64 f6, .int .i64 0, .int .i64 0, .bool f9, .slice none 0 0, .slice none 0 0] 32 (0, 0))) := ⟨H_gm.out⟩
      have n1_ : Aside0 (wr.heap[gr]? = some (.cells #[.slice A l.length c, .int .i64 ((p3 : Nat) : Int)] 61 (0, 0))) := ⟨H_gr.out⟩
      clear H_gm H_gr
      have H_gm := n0_
      have H_gr := n1_
      clear n0_ n1_
      have kgp := (show wr.cell? ⟨gp, 4, none⟩ = some (.pointer (some ⟨gm, 7, none⟩)) from (blk_cell H_gp.out 4).trans rfl)
      go_wp2_with (go_at_call 20; refine (HN4.out _ gr HB.out G_gr.out H_gr.out).mono ?_; rintro r w13 ⟨rfl, hA2, hB2, hK2⟩; have n0_ := Aside0.mk (keep_blk H_gx.out hK2 (Nat.ne_of_lt L_gx_gr.out)); have n1_ := Aside0.mk (keep_blk H_ge.out hK2 (Nat.ne_of_lt L_ge_gr.out)); have n2_ := Aside0.mk (keep_blk H_gm.out hK2 (Nat.ne_of_gt L_gr_gm.out)); have n3_ := Aside0.mk (keep_blk H_gp.out hK2 (Nat.ne_of_gt L_gr_gp.out)); have n4_ := Aside0.mk (hA2); have n5_ := Aside0.mk (hB2); clear H_gx H_ge H_gm H_gp H_gr HB hA2 hB2 hK2; have H_gx := n0_; have H_ge := n1_; have H_gm := n2_; have H_gp := n3_; have H_gr := n4_; have HB := n5_; clear n0_ n1_ n2_ n3_ n4_ n5_; have kgm7 : w13.cell? ⟨gm, 7, none⟩ = some (.int .i64 0) := (blk_cell H_gm.out 7).trans rfl; have ugm7 := blk_frozen H_gm.out 7; clear kgp)
      have n0_ := Aside0.mk ((show (w13.setCell ⟨gm, 7, none⟩ (.int .i64 f7)).heap[gm]? = some (.cells #[.int .i64 f0, .int .i64 f1, .int .i64 f2, .int .i64 f3, .int .i64 f4, .int .i64 f5, .int .i64 f6, .int .i64 f7, .int .i64 0, .bool f9, .slice none 0 0, .slice none 0 0] 32 (0, 0)) from (blk_put H_gm.out 7 (.int .i64 f7) rfl)))
      have n1_ := Aside0.mk ((blk_far (p := ⟨gm, 7, none⟩) H_gx.out (Nat.ne_of_lt L_gx_gm.out) (.int .i64 f7)))
      have n2_ := Aside0.mk ((blk_far (p := ⟨gm, 7, none⟩) H_ge.out (Nat.ne_of_lt L_ge_gm.out) (.int .i64 f7)))
      have n3_ := Aside0.mk ((blk_far (p := ⟨gm, 7, none⟩) H_gr.out (Nat.ne_of_lt L_gr_gm.out) (.int .i64 f7)))
      have n4_ := Aside0.mk ((blk_far (p := ⟨gm, 7, none⟩) H_gp.out (Nat.ne_of_gt L_gm_gp.out) (.int .i64 f7)))
      have n5_ := Aside0.mk ((below_set (j := 7) (v := .int .i64 f7) HB.out G_gm.out))
      clear H_gm H_gx H_ge H_gr H_gp HB kgm7 ugm7
      have H_gm := n0_
      have H_gx := n1_
      have H_ge := n2_
      have H_gr := n3_
      have H_gp := n4_
      have HB := n5_
      clear n0_ n1_ n2_ n3_ n4_ n5_
      generalize (w13.setCell ⟨gm, 7, none⟩ (.int .i64 f7)) = w14 at H_gm H_gx H_ge H_gr H_gp HB ⊢
      go_roundg 1
      case measure => omega
      case rel => exact ⟨5, rfl, ⟨rfl⟩, ⟨H_gx.out⟩, ⟨H_ge.out⟩, ⟨H_gr.out⟩, ⟨H_gm.out⟩, ⟨H_gp.out⟩, ⟨HB.out⟩⟩
    · -- 5
      subst h
      obtain rfl : gk = 1 := by have := HI.out; omega
      clear HI
      have n0_ : Aside0 (wr.heap[gm]? = some (.cells #[.int .i64 f0, .int .i64 f1, .int .i64 f2, .int .i64 f3, .int .i64 f4, .int .i64 f5, .int .i64 f6, .int .i64 f7, .int .i64 0, .bool f9, .slice none 0 0, .slice none 0 0] 32 (0, 0))) := ⟨H_gm.out⟩
      have n1_ : Aside0 (wr.heap[gr]? = some (.cells #[.slice A l.length c, .int .i64 ((p4 : Nat) : Int)] 61 (0, 0))) := ⟨H_gr.out⟩
      clear H_gm H_gr
      have H_gm := n0_
      have H_gr := n1_
      clear n0_ n1_
      have kgp := (show wr.cell? ⟨gp, 5, none⟩ = some (.pointer (some ⟨gm, 8, none⟩)) from (blk_cell H_gp.out 5).trans rfl)
      go_wp2_with (go_at_call 20; refine (HN5.out _ gr HB.out G_gr.out H_gr.out).mono ?_; rintro r w13 ⟨rfl, hA2, hB2, hK2⟩; have n0_ := Aside0.mk (keep_blk H_gx.out hK2 (Nat.ne_of_lt L_gx_gr.out)); have n1_ := Aside0.mk (keep_blk H_ge.out hK2 (Nat.ne_of_lt L_ge_gr.out)); have n2_ := Aside0.mk (keep_blk H_gm.out hK2 (Nat.ne_of_gt L_gr_gm.out)); have n3_ := Aside0.mk (keep_blk H_gp.out hK2 (Nat.ne_of_gt L_gr_gp.out)); have n4_ := Aside0.mk (hA2); have n5_ := Aside0.mk (hB2); clear H_gx H_ge H_gm H_gp H_gr HB hA2 hB2 hK2; have H_gx := n0_; have H_ge := n1_; have H_gm := n2_; have H_gp := n3_; have H_gr := n4_; have HB := n5_; clear n0_ n1_ n2_ n3_ n4_ n5_; have kgm8 : w13.cell? ⟨gm, 8, none⟩ = some (.int .i64 0) := (blk_cell H_gm.out 8).trans rfl; have ugm8 := blk_frozen H_gm.out 8; clear kgp)
      have n0_ := Aside0.mk ((show (w13.setCell ⟨gm, 8, none⟩ (.int .i64 f8)).heap[gm]? = some (.cells #[.int .i64 f0, .int .i64 f1, .int .i64 f2, .int .i64 f3, .int .i64 f4, .int .i64 f5, .int .i64 f6, .int .i64 f7, .int .i64 f8, .bool f9, .slice none 0 0, .slice none 0 0] 32 (0, 0)) from (blk_put H_gm.out 8 (.int .i64 f8) rfl)))
      have n1_ := Aside0.mk ((blk_far (p := ⟨gm, 8, none⟩) H_gx.out (Nat.ne_of_lt L_gx_gm.out) (.int .i64 f8)))
      have n2_ := Aside0.mk ((blk_far (p := ⟨gm, 8, none⟩) H_ge.out (Nat.ne_of_lt L_ge_gm.out) (.int .i64 f8)))
      have n3_ := Aside0.mk ((blk_far (p := ⟨gm, 8, none⟩) H_gr.out (Nat.ne_of_lt L_gr_gm.out) (.int .i64 f8)))
      have n4_ := Aside0.mk ((blk_far (p := ⟨gm, 8, none⟩) H_gp.out (Nat.ne_of_gt L_gm_gp.out) (.int .i64 f8)))
      have n5_ := Aside0.mk ((below_set (j := 8) (v := .int .i64 f8) HB.out G_gm.out))
      clear H_gm H_gx H_ge H_gr H_gp HB kgm8 ugm8
      have H_gm := n0_
      have H_gx := n1_
      have H_ge := n2_
      have H_gr := n3_
      have H_gp := n4_
      have HB := n5_
      clear n0_ n1_ n2_ n3_ n4_ n5_
      generalize (w13.setCell ⟨gm, 8, none⟩ (.int .i64 f8)) = w14 at H_gm H_gx H_ge H_gr H_gp HB ⊢
      go_roundg 0
      case measure => omega
      case rel => exact ⟨6, rfl, ⟨rfl⟩, ⟨H_gx.out⟩, ⟨H_ge.out⟩, ⟨H_gr.out⟩, ⟨H_gm.out⟩, ⟨H_gp.out⟩, ⟨HB.out⟩⟩
    · -- 6
      subst h
      obtain rfl : gk = 0 := by have := HI.out; omega
      clear HI
      have n0_ : Aside0 (wr.heap[gm]? = some (.cells #[.int .i64 f0, .int .i64 f1, .int .i64 f2, .int .i64 f3, .int .i64 f4, .int .i64 f5, .int .i64 f6, .int .i64 f7, .int .i64 f8, .bool f9, .slice none 0 0, .slice none 0 0] 32 (0, 0))) := ⟨H_gm.out⟩
      have n1_ : Aside0 (wr.heap[gr]? = some (.cells #[.slice A l.length c, .int .i64 ((p5 : Nat) : Int)] 61 (0, 0))) := ⟨H_gr.out⟩
      clear H_gm H_gr
      have H_gm := n0_
      have H_gr := n1_
      clear n0_ n1_
      have c8 : decide (8 < (f10.length : Int)) = false := decide_eq_false (by have := H10.out; omega)
      go_wp2_with (go_at_call 20; refine (HN6.out _ gr HB.out G_gr.out H_gr.out).mono ?_; rintro r w13 ⟨rfl, hA2, hB2, hK2⟩; have n0_ := Aside0.mk (keep_blk H_gx.out hK2 (Nat.ne_of_lt L_gx_gr.out)); have n1_ := Aside0.mk (keep_blk H_ge.out hK2 (Nat.ne_of_lt L_ge_gr.out)); have n2_ := Aside0.mk (keep_blk H_gm.out hK2 (Nat.ne_of_gt L_gr_gm.out)); have n3_ := Aside0.mk (keep_blk H_gp.out hK2 (Nat.ne_of_gt L_gr_gp.out)); have n4_ := Aside0.mk (hA2); have n5_ := Aside0.mk (hB2); clear H_gx H_ge H_gm H_gp H_gr HB hA2 hB2 hK2; have H_gx := n0_; have H_ge := n1_; have H_gm := n2_; have H_gp := n3_; have H_gr := n4_; have HB := n5_; clear n0_ n1_ n2_ n3_ n4_ n5_)
      have HO := Aside0.mk (Kd.R_nil k48 48 w13 w.heap.size (fun _ => True))
      go_loopg [48] (f10.length + 1) (fun n v48 W => ∃ (i : Nat) (Au : Option Addr) (cu : Nat), v48 = .int .i64 (i : Int) ∧ Aside0 (n + i = f10.length + 1 ∧ i ≤ f10.length) ∧ Aside0 (W.heap[gx]? = some (.cells #[.int .i64 0, .int .i64 0, .int .i64 0, .int .i64 0, .int .i64 0, .int .i64 0, .int .i64 0, .int .i64 0, .int .i64 0, .bool false, .slice none 0 0, .slice none 0 0] 32 (0, 0))) ∧ Aside0 (W.heap[ge]? = some (.cells #[.int .i64 0] 26 (0, 0))) ∧ Aside0 (W.heap[gr]? = some (.cells #[.slice A l.length c, .int .i64 (((p6 + (encEs (f10.take i)).length) : Nat) : Int)] 61 (0, 0))) ∧ Aside0 (W.heap[gm]? = some (.cells #[.int .i64 f0, .int .i64 f1, .int .i64 f2, .int .i64 f3, .int .i64 f4, .int .i64 f5, .int .i64 f6, .int .i64 f7, .int .i64 f8, .bool f9, .slice Au (f10.take i).length cu, .slice none 0 0] 32 (0, 0))) ∧ Aside0 (W.heap[gp]? = some (.cells #[.pointer (some ⟨gm, 3, none⟩), .pointer (some ⟨gm, 4, none⟩), .pointer (some ⟨gm, 5, none⟩), .pointer (some ⟨gm, 6, none⟩), .pointer (some ⟨gm, 7, none⟩), .pointer (some ⟨gm, 8, none⟩)] 63 (0, 0))) ∧ Aside0 (Below w.heap.size w W) ∧ Aside0 (Kd.R k48 48 W w.heap.size (fun _ => True) (.slice Au (f10.take i).length cu) (f10.take i)))
      case atStart => exact ⟨0, none, 0, rfl, ⟨by omega, by omega⟩, ⟨H_gx.out⟩, ⟨H_ge.out⟩, ⟨H_gr.out⟩, ⟨H_gm.out⟩, ⟨H_gp.out⟩, ⟨HB.out⟩, ⟨HO.out⟩⟩
      case round =>
        clear H_gx H_ge H_gr H_gm H_gp HB HO
        obtain ⟨i, Au, cu, rfl, HI, H_gx, H_ge, H_gr, H_gm, H_gp, HB, HO⟩ := hrel
        obtain ⟨nl, hnl⟩ : ∃ nl, nl = (f10.take i).length := ⟨_, rfl⟩
        rw [← hnl] at H_gm HO
        have HNL := Aside0.mk hnl
        clear hnl
        rcases Nat.lt_or_ge i f10.length with hi | hi
        · -- an entry more
          have c1 : decide ((i : Int) < (f10.length : Int)) = true := decide_eq_true (by omega)
          have c1n : decide (i < f10.length) = true := decide_eq_true hi
          obtain ⟨hd1, hd2⟩ := ents_at HD6.out HS6.out i (by omega)
          rw [encEs_drop hi, List.append_assoc] at hd1
          obtain ⟨x, hx⟩ : ∃ x, x = f10[i] := ⟨_, rfl⟩
          have htk : f10.take (i + 1) = f10.take i ++ [x] := by rw [hx]; exact List.take_succ_eq_append_getElem hi
          have hpe : (p6 + (encEs (f10.take (i + 1))).length) = (p6 + (encEs (f10.take i)).length) + (encE x).length := by rw [encEs_take hi, List.length_append, hx, ← Nat.add_assoc]
          rw [← hx] at hd1
          have HEN := Aside0.mk (show ∀ W g, Below w.heap.size w W → w.heap.size ≤ g → RdAt W g A l.length c (((p6 + (encEs (f10.take i)).length) : Nat) : Int) → _ from fun W g b hg a => rd_entry b hg HR.out HC.out a x (HWE.out x (by rw [hx]; exact List.getElem_mem hi)) hd1 HLEN.out)
          rw [← hpe] at HEN
          obtain ⟨x0, x1, x2, x3⟩ := x
          simp only at HEN
          have HTK := Aside0.mk htk
          have HLI := Aside0.mk hi
          clear hd1 hd2 hx htk hpe hi
          go_upto_region 17 with (fail)
          refine start_ (n := 8) (S := fun w' => w'.cell? ⟨gm, 10, none⟩ = some (.slice Au nl cu)) (ds := [7]) #[false, false, false, false, false, false, false, false] (by kernel_rfl) rfl rfl ((blk_cell H_gm.out 10).trans rfl) (fun hHeld => ?_)
          refine with_tab (T := get_T17) get_tab17 (fun HT_ => ?_)
          have n0_ := Aside0.mk (blk_drew H_gx.out)
          have n1_ := Aside0.mk (blk_drew H_ge.out)
          have n2_ := Aside0.mk (blk_drew H_gr.out)
          have n3_ := Aside0.mk (blk_drew H_gm.out)
          have n4_ := Aside0.mk (blk_drew H_gp.out)
          have n5_ := Aside0.mk (Kd.R_drew HO.out)
          have n6_ := Aside0.mk (below_drew1 HB.out)
          clear H_gx H_ge H_gr H_gm H_gp HO HB
          have H_gx := n0_
          have H_ge := n1_
          have H_gr := n2_
          have H_gm := n3_
          have H_gp := n4_
          have HO := n5_
          have HB := n6_
          clear n0_ n1_ n2_ n3_ n4_ n5_ n6_
          generalize wr.drew = w14 at H_gx H_ge H_gr H_gm H_gp HO HB hHeld ⊢
          refine pure_ (i := 0) (N := some 50) (v := ?_) (a' := ?_) #[true, false, false, false, false, false, false, false] rfl rfl (any_of HT_.out (by kernel_rfl)) (fun _ _ _ h => put_panic (fun t => res7 t 50 _ (by decide) (by decide)) h) (Or.inl ⟨by rfl, ?_⟩) ?_ ?_
          rotate_left
          · intro w'
            go_simp
            with_reducible rfl
          rotate_left
          · simp only [Act.put, List.setIfInBounds_toArray, List.set_cons_zero, List.set_cons_succ, i64_w, i32_w]
            rfl
          refine take_ (i := 1) (N := some 51) (v := ?_) (a' := ?_) #[true, true, false, false, false, false, false, false] rfl rfl (take_of HT_.out (by kernel_rfl)) (fun _ _ _ h => put_panic (fun t => res7 t 51 _ (by decide) (by decide)) h) (Or.inl ⟨by rfl, ?_⟩) hHeld ?_ ?_
          rotate_left
          · rintro w' s0
            go_simp
            with_reducible rfl
          rotate_left
          · simp only [Act.put, List.setIfInBounds_toArray, List.set_cons_zero, List.set_cons_succ, i64_w, i32_w]
            rfl
          refine pure_ (i := 2) (N := some 52) (v := ?_) (a' := ?_) #[true, true, true, false, false, false, false, false] rfl rfl (any_of HT_.out (by kernel_rfl)) (fun _ _ _ h => put_panic (fun t => res7 t 52 _ (by decide) (by decide)) h) (Or.inl ⟨by rfl, ?_⟩) ?_ ?_
          rotate_left
          · intro w'
            go_simp
            with_reducible rfl
          rotate_left
          · simp only [Act.put, List.setIfInBounds_toArray, List.set_cons_zero, List.set_cons_succ, i64_w, i32_w]
            rfl
          refine one_ (i := 3) (N := some 53) #[true, true, true, true, false, false, false, false] rfl rfl (one_of HT_.out (by kernel_rfl)) (by decide) (fun K hK => ?_)
          refine goes_ Try.func21 (by kernel_rfl) rfl #[.pointer (some ⟨gr, 0, none⟩)] (by rfl) rfl rfl (by (try simp only [List.map_toArray, List.map_cons, List.map_nil]); first | done | rfl) ?_
          refine (HEN.out _ gr HB.out G_gr.out H_gr.out).mono ?_
          rintro r w15 ⟨v, rfl, hO, hA2, hB2, hK2⟩
          refine ⟨_, rfl, ?_⟩
          have HV := Aside0.mk hO
          have HLT := Aside0.mk (Kd.R_lt HO.out)
          have HSZ := Aside0.mk (HB.out.size)
          have n0_ := Aside0.mk (R_call HO.out H_gr.out (by decide) hK2)
          have n1_ := Aside0.mk (keep_blk H_gx.out hK2 (Nat.ne_of_lt L_gx_gr.out))
          have n2_ := Aside0.mk (keep_blk H_ge.out hK2 (Nat.ne_of_lt L_ge_gr.out))
          have n3_ := Aside0.mk (keep_blk H_gm.out hK2 (Nat.ne_of_gt L_gr_gm.out))
          have n4_ := Aside0.mk (keep_blk H_gp.out hK2 (Nat.ne_of_gt L_gr_gp.out))
          have n5_ := Aside0.mk (hA2)
          have n6_ := Aside0.mk (hB2)
          clear HO H_gx H_ge H_gm H_gp H_gr HB hA2 hB2 hK2 hO hHeld
          have HO := n0_
          have H_gx := n1_
          have H_ge := n2_
          have H_gm := n3_
          have H_gp := n4_
          have H_gr := n5_
          have HB := n6_
          clear n0_ n1_ n2_ n3_ n4_ n5_ n6_
          refine hK.out _ _ ((blk_cell H_gm.out 10).trans rfl) (fun hHeld => ?_)
          clear hK K
          refine norm_ (a' := ?_) ?_ ?_
          rotate_left
          · show Act.put _ (some 53) _ = _
            simp only [Act.put, List.setIfInBounds_toArray, List.set_cons_zero, List.set_cons_succ, i64_w, i32_w]
            rfl
          refine one_ (i := 4) (N := some 54) #[true, true, true, true, true, false, false, false] rfl rfl (one_of HT_.out (by kernel_rfl)) (by decide) (fun K hK => ?_)
          refine event_step (v := .slice (some ⟨w15.heap.size, 0, none⟩) 1 1) (w1 := w15.alloc (.cells #[.int .i64 x0, .int .i64 x1, .int .i64 x2, v] 48)) (by rfl) (by first | (go_simp; done) | (go_simp; rfl)) ?_
          refine hK.out _ _ ((blk_cell (blk_alloc H_gm.out _) 10).trans rfl) (fun hHeld => ?_)
          clear hK K
          refine norm_ (a' := ?_) ?_ ?_
          rotate_left
          · show Act.put _ (some 54) _ = _
            simp only [Act.put, List.setIfInBounds_toArray, List.set_cons_zero, List.set_cons_succ, i64_w, i32_w]
            rfl
          refine one_ (i := 5) (N := some 55) #[true, true, true, true, true, true, false, false] rfl rfl (one_of HT_.out (by kernel_rfl)) (by decide) (fun K hK => ?_)
          refine Kd.R_append_step k48 (w0 := w) (W := w15) w.heap.size (by rfl) (.tmp 51) (.tmp 54) 30 48 (.agg #[.int .i64 0, .int .i64 0, .int .i64 0, .slice none 0 0]) 48 rfl Try.underlying30 info_E rfl (by decide) (by omega) (.slice Au nl cu) (f10.take i) (⟨x0, x1, x2, x3⟩ : S48) [.int .i64 x0, .int .i64 x1, .int .i64 x2, v] (fun _ => True) (fun k_ => w14.heap.size ≤ k_) rfl rfl (k48_mkM w15 w.heap.size (fun k_ => w14.heap.size ≤ k_) (⟨x0, x1, x2, x3⟩ : S48) (Kd.R_mono (Kd.R_lower (Kd.R_bound HV.out) HSZ.out) (fun k hk => hk.2.1))) (fun k hk => ⟨trivial, fun he => by have := HLT.out k he.symm; omega⟩) (fun _ _ => trivial) HO.out HB.out HB.out.size ?hl ?_
          case hl => have := HLI.out; have := H10.out; rw [List.length_take]; omega
          intro v1 w16 ho hb hgr hat
          rw [← HTK.out] at ho
          obtain ⟨Aw, cw, ev⟩ := Kd.R_slice ho
          subst ev
          obtain ⟨nm, hnm⟩ : ∃ nm, nm = (f10.take (i + 1)).length := ⟨_, rfl⟩
          rw [← hnm] at ho ⊢
          have HNM := Aside0.mk hnm
          clear hnm
          have n0_ := Aside0.mk (blk_grown H_gx.out hgr (Kd.R_ne HO.out H_gx.out (by decide)))
          have n1_ := Aside0.mk (blk_grown H_ge.out hgr (Kd.R_ne HO.out H_ge.out (by decide)))
          have n2_ := Aside0.mk (blk_grown H_gr.out hgr (Kd.R_ne HO.out H_gr.out (by decide)))
          have n3_ := Aside0.mk (blk_grown H_gm.out hgr (Kd.R_ne HO.out H_gm.out (by decide)))
          have n4_ := Aside0.mk (blk_grown H_gp.out hgr (Kd.R_ne HO.out H_gp.out (by decide)))
          have n5_ := Aside0.mk (ho)
          have n6_ := Aside0.mk (hb)
          clear H_gx H_ge H_gr H_gm H_gp HO HB ho hb hgr hat HV HLT HSZ
          have H_gx := n0_
          have H_ge := n1_
          have H_gr := n2_
          have H_gm := n3_
          have H_gp := n4_
          have HO := n5_
          have HB := n6_
          clear n0_ n1_ n2_ n3_ n4_ n5_ n6_
          refine hK.out _ _ ((blk_cell H_gm.out 10).trans rfl) (fun hHeld => ?_)
          clear hK K
          refine norm_ (a' := ?_) ?_ ?_
          rotate_left
          · show Act.put _ (some 55) _ = _
            simp only [Act.put, List.setIfInBounds_toArray, List.set_cons_zero, List.set_cons_succ, i64_w, i32_w]
            rfl
          refine pure_ (i := 6) (N := some 56) (v := ?_) (a' := ?_) #[true, true, true, true, true, true, true, false] rfl rfl (any_of HT_.out (by kernel_rfl)) (fun _ _ _ h => put_panic (fun t => res7 t 56 _ (by decide) (by decide)) h) (Or.inl ⟨by rfl, ?_⟩) ?_ ?_
          rotate_left
          · intro w'
            go_simp
            with_reducible rfl
          rotate_left
          · simp only [Act.put, List.setIfInBounds_toArray, List.set_cons_zero, List.set_cons_succ, i64_w, i32_w]
            rfl
          refine last_ (i := 7) (N := none) #[true, true, true, true, true, true, true, true] rfl rfl (one_of HT_.out (by kernel_rfl)) (by decide) (fun K hK => ?_)
          have hs_ : w16.cell? ⟨gm, 10, none⟩ = some (.slice Au nl cu) := (blk_cell H_gm.out 10).trans rfl
          have hf_ := blk_frozen H_gm.out 10
          refine skip_ (w1 := ?_) (by rfl) rfl ?_ ?_
          rotate_left
          · go_simp
            rfl
          refine hK.out _ _ ?_
          clear hK K hs_ hf_ hHeld
          have n0_ := Aside0.mk ((show (w16.setCell ⟨gm, 10, none⟩ (.slice Aw nm cw)).heap[gm]? = some (.cells #[.int .i64 f0, .int .i64 f1, .int .i64 f2, .int .i64 f3, .int .i64 f4, .int .i64 f5, .int .i64 f6, .int .i64 f7, .int .i64 f8, .bool f9, .slice Aw nm cw, .slice none 0 0] 32 (0, 0)) from (blk_put H_gm.out 10 (.slice Aw nm cw) rfl)))
          have n1_ := Aside0.mk ((blk_far (p := ⟨gm, 10, none⟩) H_gx.out (Nat.ne_of_lt L_gx_gm.out) (.slice Aw nm cw)))
          have n2_ := Aside0.mk ((blk_far (p := ⟨gm, 10, none⟩) H_ge.out (Nat.ne_of_lt L_ge_gm.out) (.slice Aw nm cw)))
          have n3_ := Aside0.mk ((blk_far (p := ⟨gm, 10, none⟩) H_gr.out (Nat.ne_of_lt L_gr_gm.out) (.slice Aw nm cw)))
          have n4_ := Aside0.mk ((blk_far (p := ⟨gm, 10, none⟩) H_gp.out (Nat.ne_of_gt L_gm_gp.out) (.slice Aw nm cw)))
          have n5_ := Aside0.mk (Kd.R_set HO.out H_gm.out (by decide) 10 (.slice Aw nm cw))
          have n6_ := Aside0.mk ((below_set (j := 10) (v := .slice Aw nm cw) HB.out G_gm.out))
          clear H_gm H_gx H_ge H_gr H_gp HO HB
          have H_gm := n0_
          have H_gx := n1_
          have H_ge := n2_
          have H_gr := n3_
          have H_gp := n4_
          have HO := n5_
          have HB := n6_
          clear n0_ n1_ n2_ n3_ n4_ n5_ n6_
          generalize (w16.setCell ⟨gm, 10, none⟩ (.slice Aw nm cw)) = w17 at H_gm H_gx H_ge H_gr H_gp HO HB ⊢
          refine done_ (done_of HT_.out (by kernel_rfl)) ?_
          clear HT_
          go_wp2
          go_roundg (gk - 1)
          case measure => have := HI.out; have := HLI.out; omega
          case rel => exact ⟨i + 1, Aw, cw, by rw [Go.Proofs.Ytaacjoeldgganaa.S.wr _ (by omega) (by have := HLI.out; have := H10.out; omega)]; rfl, ⟨by have := HI.out; have := HLI.out; omega⟩, ⟨H_gx.out⟩, ⟨H_ge.out⟩, ⟨H_gr.out⟩, ⟨by rw [← HNM.out]; exact H_gm.out⟩, ⟨H_gp.out⟩, ⟨HB.out⟩, ⟨by rw [← HNM.out]; exact HO.out⟩⟩
        · -- no entry more
          obtain rfl : i = f10.length := by have := HI.out; omega
          have c1 : decide ((f10.length : Int) < (f10.length : Int)) = false := decide_eq_false (by omega)
          have c1n : decide (f10.length < f10.length) = false := decide_eq_false (by omega)
          have hpd := ents_at HD6.out HS6.out f10.length (Nat.le_refl _)
          rw [List.take_length, List.drop_length] at hpd
          obtain ⟨hd1, hd2⟩ := hpd
          have hd3 : l.drop (p6 + (encEs f10).length) = enc f11.length ++ (f11 ++ []) := by rw [hd1]; simp [encEs]
          have hend : p6 + (encEs f10).length + (enc f11.length).length + f11.length = l.length := by have := congrArg List.length hd3; simp at this; omega
          have HDT := Aside0.mk (show ∀ W g, Below w.heap.size w W → w.heap.size ≤ g → RdAt W g A l.length c ((p6 + (encEs f10).length : Nat) : Int) → _ from fun W g b hg a => rd_data b hg HR.out HC.out a (d := f11) (post := []) 32768 (by have := H11.out; omega) (by omega) hd3 hd2 HLEN.out)
          rw [hend] at HDT
          have n0_ := Aside0.mk (by rw [← List.take_length (l := f10)]; exact H_gr.out : wr.heap[gr]? = some (.cells #[.slice A l.length c, .int .i64 ((p6 + (encEs f10).length : Nat) : Int)] 61 (0, 0)))
          have n1_ := Aside0.mk (by have := HO.out; rw [List.take_length] at this; exact this : Kd.R k48 48 wr w.heap.size (fun _ => True) (.slice Au nl cu) f10)
          clear H_gr HO
          have H_gr := n0_
          have HO := n1_
          clear n0_ n1_ hd1 hd2 hd3 hend hi HI HNL
          go_upto_region 20 with (go_at_call 22; refine (HDT.out _ gr HB.out G_gr.out H_gr.out).mono ?_; rintro r w18 ⟨v, rfl, hO, hA2, hB2, hK2⟩; have HO11 := Aside0.mk (Kd.R_lower hO HB.out.size); clear hO; obtain ⟨A11, c11, ev⟩ := Kd.R_slice HO11.out; subst ev; have n0_ := Aside0.mk (R_call HO.out H_gr.out (by decide) hK2); have n1_ := Aside0.mk (keep_blk H_gx.out hK2 (Nat.ne_of_lt L_gx_gr.out)); have n2_ := Aside0.mk (keep_blk H_ge.out hK2 (Nat.ne_of_lt L_ge_gr.out)); have n3_ := Aside0.mk (keep_blk H_gm.out hK2 (Nat.ne_of_gt L_gr_gm.out)); have n4_ := Aside0.mk (keep_blk H_gp.out hK2 (Nat.ne_of_gt L_gr_gp.out)); have n5_ := Aside0.mk (hA2); have n6_ := Aside0.mk (hB2); clear HO H_gx H_ge H_gm H_gp H_gr HB hA2 hB2 hK2; have HO := n0_; have H_gx := n1_; have H_ge := n2_; have H_gm := n3_; have H_gp := n4_; have H_gr := n5_; have HB := n6_; clear n0_ n1_ n2_ n3_ n4_ n5_ n6_; have kgm11 : w18.cell? ⟨gm, 11, none⟩ = some (.slice none 0 0) := (blk_cell H_gm.out 11).trans rfl; have ugm11 := blk_frozen H_gm.out 11)
          have n0_ := Aside0.mk ((show (w18.setCell ⟨gm, 11, none⟩ (.slice A11 f11.length c11)).heap[gm]? = some (.cells #[.int .i64 f0, .int .i64 f1, .int .i64 f2, .int .i64 f3, .int .i64 f4, .int .i64 f5, .int .i64 f6, .int .i64 f7, .int .i64 f8, .bool f9, .slice Au nl cu, .slice A11 f11.length c11] 32 (0, 0)) from (blk_put H_gm.out 11 (.slice A11 f11.length c11) rfl)))
          have n1_ := Aside0.mk ((blk_far (p := ⟨gm, 11, none⟩) H_gx.out (Nat.ne_of_lt L_gx_gm.out) (.slice A11 f11.length c11)))
          have n2_ := Aside0.mk ((blk_far (p := ⟨gm, 11, none⟩) H_ge.out (Nat.ne_of_lt L_ge_gm.out) (.slice A11 f11.length c11)))
          have n3_ := Aside0.mk ((blk_far (p := ⟨gm, 11, none⟩) H_gr.out (Nat.ne_of_lt L_gr_gm.out) (.slice A11 f11.length c11)))
          have n4_ := Aside0.mk ((blk_far (p := ⟨gm, 11, none⟩) H_gp.out (Nat.ne_of_gt L_gm_gp.out) (.slice A11 f11.length c11)))
          have n5_ := Aside0.mk (Kd.R_set HO.out H_gm.out (by decide) 11 (.slice A11 f11.length c11))
          have n6_ := Aside0.mk (Kd.R_set HO11.out H_gm.out (by decide) 11 (.slice A11 f11.length c11))
          have n7_ := Aside0.mk ((below_set (j := 11) (v := .slice A11 f11.length c11) HB.out G_gm.out))
          clear H_gm H_gx H_ge H_gr H_gp HO HO11 HB kgm11 ugm11
          have H_gm := n0_
          have H_gx := n1_
          have H_ge := n2_
          have H_gr := n3_
          have H_gp := n4_
          have HO := n5_
          have HO11 := n6_
          have HB := n7_
          clear n0_ n1_ n2_ n3_ n4_ n5_ n6_ n7_
          generalize (w18.setCell ⟨gm, 11, none⟩ (.slice A11 f11.length c11)) = w19 at H_gm H_gx H_ge H_gr H_gp HO HO11 HB ⊢
          go_upto_region 21 with (go_at_call 23; refine (rd_end (g := gr) H_gr.out).mono ?_; rintro r w20 ⟨rfl, ⟨nd, rfl⟩⟩)
          have n0_ := Aside0.mk (blk_drewN H_gx.out nd)
          have n1_ := Aside0.mk (blk_drewN H_ge.out nd)
          have n2_ := Aside0.mk (blk_drewN H_gr.out nd)
          have n3_ := Aside0.mk (blk_drewN H_gm.out nd)
          have n4_ := Aside0.mk (blk_drewN H_gp.out nd)
          have n5_ := Aside0.mk (Kd.R_drewN HO.out nd)
          have n6_ := Aside0.mk (Kd.R_drewN HO11.out nd)
          have n7_ := Aside0.mk (pw_below_drewN HB.out nd)
          clear H_gx H_ge H_gr H_gm H_gp HO HO11 HB
          have H_gx := n0_
          have H_ge := n1_
          have H_gr := n2_
          have H_gm := n3_
          have H_gp := n4_
          have HO := n5_
          have HO11 := n6_
          have HB := n7_
          clear n0_ n1_ n2_ n3_ n4_ n5_ n6_ n7_
          generalize w19.drewN nd = w20 at H_gx H_ge H_gr H_gm H_gp HO HO11 HB ⊢
          go_wp2_with (first | ((with_reducible refine gate_dst (N := 63) rfl ?_); refine wpList_load_row rfl 32 (.tmp 5) rfl gm rfl 32 #[.int .i64 f0, .int .i64 f1, .int .i64 f2, .int .i64 f3, .int .i64 f4, .int .i64 f5, .int .i64 f6, .int .i64 f7, .int .i64 f8, .bool f9, .slice Au nl cu, .slice A11 f11.length c11] (0, 0) _ H_gm.out Try.underlying32 rfl (by kernel_rfl) ?_; simp only [Act.put, List.setIfInBounds_toArray, List.set_cons_zero, List.set_cons_succ]) | ((with_reducible refine gate_store (t := 32) (p := 2) rfl ?_); refine wpList_store_row rfl 32 (.tmp 2) (.tmp 63) rfl gx #[.int .i64 f0, .int .i64 f1, .int .i64 f2, .int .i64 f3, .int .i64 f4, .int .i64 f5, .int .i64 f6, .int .i64 f7, .int .i64 f8, .bool f9, .slice Au nl cu, .slice A11 f11.length c11] rfl rfl 32 #[.int .i64 0, .int .i64 0, .int .i64 0, .int .i64 0, .int .i64 0, .int .i64 0, .int .i64 0, .int .i64 0, .int .i64 0, .bool false, .slice none 0 0, .slice none 0 0] H_gx.out (by kernel_rfl) rfl (by simp [Value.oneCell']) ?_; have n0_ := Aside0.mk (setRow_heap w20 gx _ #[.int .i64 f0, .int .i64 f1, .int .i64 f2, .int .i64 f3, .int .i64 f4, .int .i64 f5, .int .i64 f6, .int .i64 f7, .int .i64 f8, .bool f9, .slice Au nl cu, .slice A11 f11.length c11] 32 (0, 0) H_gx.out); have n1_ := Aside0.mk (Kd.R_mono (Kd.R_step (Kd.R_types HO.out H_gx.out (by decide)) (fun k hk _ => setRow_other w20 gx k #[.int .i64 f0, .int .i64 f1, .int .i64 f2, .int .i64 f3, .int .i64 f4, .int .i64 f5, .int .i64 f6, .int .i64 f7, .int .i64 f8, .bool f9, .slice Au nl cu, .slice A11 f11.length c11] hk.2)) (fun _ _ => trivial)); have n2_ := Aside0.mk (Kd.R_mono (Kd.R_step (Kd.R_types HO11.out H_gx.out (by decide)) (fun k hk _ => setRow_other w20 gx k #[.int .i64 f0, .int .i64 f1, .int .i64 f2, .int .i64 f3, .int .i64 f4, .int .i64 f5, .int .i64 f6, .int .i64 f7, .int .i64 f8, .bool f9, .slice Au nl cu, .slice A11 f11.length c11] hk.2)) (fun _ _ => trivial)); have n3_ := Aside0.mk ((setRow_other w20 gx ge #[.int .i64 f0, .int .i64 f1, .int .i64 f2, .int .i64 f3, .int .i64 f4, .int .i64 f5, .int .i64 f6, .int .i64 f7, .int .i64 f8, .bool f9, .slice Au nl cu, .slice A11 f11.length c11] (Nat.ne_of_gt L_gx_ge.out)).trans H_ge.out); have n4_ := Aside0.mk (below_setRow HB.out G_gx.out #[.int .i64 f0, .int .i64 f1, .int .i64 f2, .int .i64 f3, .int .i64 f4, .int .i64 f5, .int .i64 f6, .int .i64 f7, .int .i64 f8, .bool f9, .slice Au nl cu, .slice A11 f11.length c11]); clear H_gx HO HO11 H_ge HB; have H_gx := n0_; have HO := n1_; have HO11 := n2_; have H_ge := n3_; have HB := n4_; clear n0_ n1_ n2_ n3_ n4_; clear H_gm H_gr H_gp; generalize w20.setRow gx #[.int .i64 f0, .int .i64 f1, .int .i64 f2, .int .i64 f3, .int .i64 f4, .int .i64 f5, .int .i64 f6, .int .i64 f7, .int .i64 f8, .bool f9, .slice Au nl cu, .slice A11 f11.length c11] = w21 at H_gx H_ge HO HO11 HB ⊢; have kge : w21.cell? ⟨ge, 0, none⟩ = some (.int .i64 0) := (blk_cell H_ge.out 0).trans rfl; have uge := blk_frozen H_ge.out 0))
          clear kge uge
          have hX : (w21.setCell ⟨ge, 0, none⟩ (.int .i64 0)).heap[gx]? = some (.cells #[.int .i64 f0, .int .i64 f1, .int .i64 f2, .int .i64 f3, .int .i64 f4, .int .i64 f5, .int .i64 f6, .int .i64 f7, .int .i64 f8, .bool f9, .slice Au nl cu, .slice A11 f11.length c11] 32 (0, 0)) := blk_far (p := ⟨ge, 0, none⟩) H_gx.out (Nat.ne_of_lt L_gx_ge.out) (.int .i64 0)
          have hE : (w21.setCell ⟨ge, 0, none⟩ (.int .i64 0)).heap[ge]? = some (.cells #[.int .i64 0] 26 (0, 0)) := blk_put H_ge.out 0 (.int .i64 0) rfl
          have h10 := Kd.R_set HO.out H_ge.out (by decide) 0 (.int .i64 0)
          have h11 := Kd.R_set HO11.out H_ge.out (by decide) 0 (.int .i64 0)
          have hBB := below_set (j := 0) (v := .int .i64 0) HB.out G_ge.out
          generalize w21.setCell ⟨ge, 0, none⟩ (.int .i64 0) = w22 at hX hE h10 h11 hBB ⊢
          refine leaves_cons (f := 18) (args := #[.pointer (some ⟨ge, 0, none⟩)]) (by simp) (by simp [go_sem]) ?_
          refine (caught_idle ⟨ge, 0, none⟩ _).mono ?_
          rintro e u' w'' ⟨rfl, rfl, rfl⟩
          exact ⟨_, results_msg _ rfl rfl hX rfl ((blk_cell hE 0).trans rfl), _, _, rfl, h10, h11, hBB⟩
end Go.Proofs.Ytaacjoeldgganaa.S
