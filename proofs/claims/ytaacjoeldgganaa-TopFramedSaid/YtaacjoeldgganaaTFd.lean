import Derived.Test.YtaacjoeldgganaaSx13
import Derived.Test.YtaacjoeldgganaaSx3
import Derived.Test.YtaacjoeldgganaaSx9
/-! The reader's methods, where what they ask for stands. -/
namespace Go.Proofs.Ytaacjoeldgganaa.S
open Go.RowKit Go.Proofs.YtaacjoeldgganaaW.PrintWords Go.Proofs.YtaacjoeldgganaaW.PrintLast Go.Proofs.YtaacjoeldgganaaW.PrintMore
set_option linter.unusedVariables false
set_option linter.unusedSimpArgs false
/-- A reader at a block: over these bytes, at this place. -/
def RdAt (W : World) (g : Nat) (A : Option Addr) (n c : Nat) (p : Int) : Prop := W.heap[g]? = some (.cells #[.slice A n c, .int .i64 p] 61 (0, 0))
theorem RdAt.set {W : World} {g : Nat} {A : Option Addr} {n c : Nat} {p : Int} (h : RdAt W g A n c p) (q : Int) : RdAt (W.setCell ⟨g, 1, none⟩ (.int .i64 q)) g A n c q := blk_put h 1 _ rfl
theorem RdAt.drewN {W : World} {g : Nat} {A : Option Addr} {n c : Nat} {p : Int} (h : RdAt W g A n c p) (m : Nat) : RdAt (W.drewN m) g A n c p := h
theorem RdAt.drew {W : World} {g : Nat} {A : Option Addr} {n c : Nat} {p : Int} (h : RdAt W g A n c p) : RdAt W.drew g A n c p := h
set_option maxHeartbeats 4000000 in
set_option maxRecDepth 100000 in
theorem rd_byte {w0 w : World} (hB : Below w0.heap.size w0 w) {g : Nat} (hg : w0.heap.size ≤ g) {A : Option Addr} {c : Nat} {l : List Int} (hr : Kd.C (Kd.int .u8) w0 A l.length l) {p : Nat} (hA : RdAt w g A l.length c p) (lo hi x : Int) (hx : rd l p = x) (hp : p < l.length) (h1 : lo ≤ x) (h2 : x ≤ hi) (h3 : 0 ≤ x) (h4 : x ≤ 255) (hlen : l.length < 1152921504606846976) :
    Calls Try.prog 19 #[.pointer (some ⟨g, 0, none⟩), .int .i64 lo, .int .i64 hi] w fun e w' => e = .returned (.int .i64 x) ∧ RdAt w' g A l.length c ((p + 1 : Nat) : Int) ∧ Below w0.heap.size w0 w' ∧ KeepBut w w' g none := by
  have HA := Aside0.mk hA
  have HG := Aside0.mk hg
  have HK := Aside0.mk (KeepBut.refl w g none)
  have HB := Aside0.mk hB
  obtain ⟨y, hy⟩ : ∃ y : Int, y = (p : Int) := ⟨_, rfl⟩
  have p0 : 0 ≤ y := by omega
  have p1 : y < (l.length : Int) := by omega
  obtain ⟨ad, e0, hx0⟩ := Kd.at_int hr y p0 p1
  cases e0
  rw [← hy] at hx
  rw [hx] at hx0
  have hx1 := pw_cell_below hB hx0
  have hcz_0 := (blk_cell hA 0).trans rfl
  have hcz_1 : w.cell? ⟨g, 1, none⟩ = some (.int .i64 y) := by rw [hy]; exact (blk_cell hA 1).trans rfl
  have hfz_1 := blk_frozen hA 1
  have f1 : (y == (l.length : Int)) = false := beq_eq_false_iff_ne.mpr (by omega)
  have f2 : decide (x < lo) = false := decide_eq_false (by omega)
  have f3 : decide (hi < x) = false := decide_eq_false (by omega)
  have f4 : wrap64 x = x := by unfold wrap64; omega
  obtain ⟨q, hq⟩ : ∃ q : Int, q = ((p + 1 : Nat) : Int) := ⟨_, rfl⟩
  have f5 : wrap64 (y + 1) = q := by clear f4; unfold wrap64; omega
  rw [← hq]
  replace p0 := eq_true p0
  replace p1 := eq_true p1
  have HE := Aside0.mk hr
  clear hA hg hB hx hx0 hr hp h1 h2 h3 h4 hlen hy hq
  go_enter Try.func19, Try.ntmps19
  go_wp2
  repeat (go_quiet (fail); try go_wp2)
  go_ret
  refine ⟨by first | rfl | (show Ending.returned (.int .i64 (wrap64 x)) = _; rw [f4]), ?_, ?_, ?_⟩
  · first | exact RdAt.set HA.out q | (rw [← f5]; exact RdAt.set HA.out _)
  · repeat (first | (with_reducible first | exact HB.out | apply below_alloc | apply pw_below_drewN | apply below_drew1 | refine below_set ?_ HG.out) | exact HB.out)
  · repeat (first | (with_reducible first | exact HK.out | apply KeepBut.set_ | apply keep_drewN | apply keep_drew | apply keep_alloc) | exact HK.out)
set_option maxHeartbeats 4000000 in
set_option maxRecDepth 100000 in
theorem rd_end {w : World} {g : Nat} {A : Option Addr} {n c : Nat} (hA : RdAt w g A n c n) :
    Calls Try.prog 23 #[.pointer (some ⟨g, 0, none⟩)] w fun e w' => e = .returned (.tuple #[]) ∧ ∃ m, w' = w.drewN m := by
  have hcz_0 := (blk_cell hA 0).trans rfl
  have hcz_1 : w.cell? ⟨g, 1, none⟩ = some (.int .i64 n) := (blk_cell hA 1).trans rfl
  have f1 : decide ((n : Int) < (n : Int)) = false := decide_eq_false (by omega)
  clear hA
  go_enter Try.func23, Try.ntmps23
  go_wp2
  repeat (go_quiet (fail); try go_wp2)
  go_end0
  exact ⟨rfl, ⟨_, rfl⟩⟩
set_option maxHeartbeats 4000000 in
set_option maxRecDepth 100000 in
theorem rd_number {w0 w : World} (hB : Below w0.heap.size w0 w) {g : Nat} (hg : w0.heap.size ≤ g) {A : Option Addr} {c : Nat} {l post : List Int} (hr : Kd.C (Kd.int .u8) w0 A l.length l) {p : Nat} (hA : RdAt w g A l.length c p) {n : Int} (lo : Int) (h0 : 0 ≤ n) (h1 : n ≤ 1099511627776) (h2 : lo ≤ n) (hl : l.drop p = enc n ++ post) (hp : p ≤ l.length) (hlen : l.length < 1152921504606846976) :
    Calls Try.prog 20 #[.pointer (some ⟨g, 0, none⟩), .int .i64 lo] w fun e w' => e = .returned (.int .i64 n) ∧ RdAt w' g A l.length c ((p + (enc n).length : Nat) : Int) ∧ Below w0.heap.size w0 w' ∧ KeepBut w w' g none := by
  have HA := Aside0.mk hA
  have HG := Aside0.mk hg
  have HK := Aside0.mk (KeepBut.refl w g none)
  have HB := Aside0.mk hB
  have HS0 := Aside0.mk hr
  have HT := Aside0.mk (TakeNumber_is h0 h1 hl hp hlen)
  have hcz_0 := (blk_cell hA 0).trans rfl
  have hcz_1 : w.cell? ⟨g, 1, none⟩ = some (.int .i64 p) := (blk_cell hA 1).trans rfl
  have hfz_1 := blk_frozen hA 1
  have c1 : decide (n < lo) = false := decide_eq_false (by omega)
  obtain ⟨q, hq⟩ : ∃ q : Int, q = ((p + (enc n).length : Nat) : Int) := ⟨_, rfl⟩
  rw [← hq] at HT ⊢
  clear hA hg hB hr h0 h1 h2 hl hp hlen hq
  go_enter Try.func20, Try.ntmps20
  go_wp2
  repeat (go_quiet (first | (go_at_call 26; (with_reducible refine (wire_TakeNumber.calls A c l p n q 0 _ ?side1 HT.out).mono ?_); (case side1 => repeat (first | exact (Kd.C_below HS0.out HB.out) | (with_reducible refine Kd.C_alloc ?_ _) | (with_reducible refine Kd.C_drewN ?_ _) | (with_reducible refine Kd.C_drew ?_))); rintro e w' ⟨rfl, ⟨nd, rfl⟩⟩; (try first | exact ⟨rfl, _, World.drewN_drewN _ _ _⟩ | exact ⟨rfl, _, Eq.trans (World.drewN_drewN _ _ _) (congrArg (World.drewN _) (Nat.add_assoc _ _ _))⟩))); try go_wp2)
  go_ret
  refine ⟨rfl, ?_, ?_, ?_⟩
  · exact RdAt.set HA.out q
  · repeat (first | (with_reducible first | exact HB.out | apply below_alloc | apply pw_below_drewN | apply below_drew1 | refine below_set ?_ HG.out) | exact HB.out)
  · repeat (first | (with_reducible first | exact HK.out | apply KeepBut.set_ | apply keep_drewN | apply keep_drew | apply keep_alloc) | exact HK.out)
end Go.Proofs.Ytaacjoeldgganaa.S
