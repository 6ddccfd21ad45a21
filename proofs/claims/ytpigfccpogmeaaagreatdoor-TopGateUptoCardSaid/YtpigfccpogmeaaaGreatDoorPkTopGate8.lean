/- Walks and plain facts, joined out of several texts: what the row of TopGate leads to. -/
import Derived.Test.YtpigfccpogmeaaaGreatDoorPkTopGate7
import Derived.Test.YtpigfccpogmeaaaGreatDoorRows
import Derived.SizedLaws
import Derived.ChangeSlices
import Derived.Deep.Slices
import Derived.ChangeSame
import Derived.DataReads
import Derived.OpenShut
import Derived.Laws.Cover2
section
namespace Go.Proofs.YtpigfccpogmeaaaGreatDoor.HP
open Go.RowKit Go.Proofs.YtpigfccpogmeaaaGreatDoor.S Go.Proofs.YtpigfccpogmeaaaGreatDoorW.PrintWords Go.Proofs.YtpigfccpogmeaaaGreatDoorW.PrintLast Go.Proofs.YtpigfccpogmeaaaGreatDoorW.PrintMore
theorem N8_app (a b : List UInt8) : bytesOf (B a) ++ bytesOf (B b) = bytesOf (B (a ++ b)) := by rw [N8_B, N8_B, N8_B, List.map_append]
theorem N8_len (a : List UInt8) : (bytesOf (B a)).length = a.length := by rw [N8_B, List.length_map]
theorem rd_F (fs : List Fd) (i : Nat) (hi : i < fs.length) : rd_T88 (fs.map sF) (i : Int) = sF fs[i] := by simp [rd_T88, hi]
def W2 (m p q : List UInt8) (fs : List Fd) (ok : Bool) (n : Nat) : List Int × Int :=
  if ok = true ∧ n = 1 then (if 32 < fs.length ∨ 2048 < (writeL m p q fs).length then ([], 6) else (bytesOf (B (writeL m p q fs)), 0)) else ([], 4)
theorem W2_a (m p q : List UInt8) (fs : List Fd) (h : 32 < fs.length ∨ 2048 < (writeL m p q fs).length) : W2 m p q fs true 1 = ([], 6) := by
  unfold W2;rw [zp ⟨rfl, rfl⟩, zp h]
theorem W2_b (m p q : List UInt8) (fs : List Fd) (h : ¬ (32 < fs.length ∨ 2048 < (writeL m p q fs).length)) : W2 m p q fs true 1 = (bytesOf (B (writeL m p q fs)), 0) := by
  unfold W2;rw [zp ⟨rfl, rfl⟩, zn h]
def preW (m p q : List UInt8) : List UInt8 := m ++ 32 :: (tgt p q ++ 32 :: (verL ++ [13, 10]))
def flatW (fs : List Fd) : List UInt8 := fs.flatMap (fun f => f.1 ++ 58 :: 32 :: (f.2 ++ [13, 10]))
theorem writeL_pre (m p q : List UInt8) (fs : List Fd) : writeL m p q fs = preW m p q ++ flatW fs ++ [13, 10] := writeL_flat m p q fs
theorem flatW_take (fs : List Fd) (i : Nat) (hi : i < fs.length) : flatW (fs.take (i + 1)) = flatW (fs.take i) ++ (fs[i].1 ++ 58 :: 32 :: (fs[i].2 ++ [13, 10])) := by
  rw [List.take_succ_eq_append_getElem hi];unfold flatW;rw [List.flatMap_append, List.flatMap_cons, List.flatMap_nil, List.append_nil]
theorem flatW_le (fs : List Fd) (i : Nat) : (flatW (fs.take i)).length ≤ szF fs := by
  have h : fs = fs.take i ++ fs.drop i := (List.take_append_drop i fs).symm;have h2 : (flatW fs).length = szF fs := flat_sz fs;rw [← h2]
  conv => rhs; rw [h]
  unfold flatW;rw [List.flatMap_append, List.length_append];omega
theorem write_l1 (m p q hh : List UInt8) (fs : List Fd) (hpre : (preW m p q).length ≤ 100000000) (hsz : szF fs ≤ 100000000) (hfs : fs.length ≤ 100000000) : ∀ (d i : Nat), i + d = fs.length →
    Ev (fun k => head_Write.l1 k (bytesOf (B (preW m p q ++ flatW (fs.take i)))) (fs.map sF) (fs.length : Int) (i : Int) (B m) (B p) (B q) (B hh) (fs.map sF)) (W2 m p q fs true 1) := by
  intro d
  induction d with
  | zero =>
    intro i hi;have hle := flatW_le fs i;have e2 : bytesOf (⟨#[13, 10]⟩ : ByteArray) = bytesOf (B [13, 10]) := rfl;refine Ev.step (fun k => by simp only [head_Write.l1]; rfl) (Ev.neg zO (Ev.pos (by rw [N8_len, List.length_append]; omega) (Ev.put ?_)));rw [e2, N8_app, N8_len, List.length_map];rw [List.take_of_length_le zO, ← writeL_pre];by_cases h1 : 32 < fs.length
    · rw [W2_a m p q fs (.inl h1)];exact Ev.pos zO (Ev.ret rfl)
    by_cases h2 : 2048 < (writeL m p q fs).length
    · rw [W2_a m p q fs (.inr h2)];exact Ev.neg zO (Ev.pos zO (Ev.ret rfl))
    rw [W2_b m p q fs zO];exact Ev.neg zO (Ev.neg zO (Ev.ret rfl))
  | succ d ih =>
    intro i hi;have hlt : i < fs.length := by omega
    have hw := wrap_succ i zO;have hle := flatW_le fs i;have hm := sz_mem (List.getElem_mem hlt);have hi' := ih (i + 1) zO;have e1 : ((((sF fs[i]).f0 ++ (⟨#[58, 32]⟩ : ByteArray)) ++ (sF fs[i]).f1) ++ (⟨#[13, 10]⟩ : ByteArray)) = B (fs[i].1 ++ 58 :: 32 :: (fs[i].2 ++ [13, 10])) := by
      show ((B fs[i].1 ++ B [58, 32]) ++ B fs[i].2) ++ B [13, 10] = _
      rw [B_append, B_append, B_append];simp
    have s1 : ((sF fs[i]).f0).size = fs[i].1.length := B_size _;have s2 : ((sF fs[i]).f0 ++ (⟨#[58, 32]⟩ : ByteArray)).size = fs[i].1.length + 2 := by rw [ByteArray.size_append, s1]; rfl
    have s3 : ((sF fs[i]).f1).size = fs[i].2.length := B_size _;have s4 : (((sF fs[i]).f0 ++ (⟨#[58, 32]⟩ : ByteArray)) ++ (sF fs[i]).f1).size = fs[i].1.length + 2 + fs[i].2.length := by rw [ByteArray.size_append, s2, s3]
    have s5 : (B (fs[i].1 ++ 58 :: 32 :: (fs[i].2 ++ [13, 10]))).size = fs[i].1.length + fs[i].2.length + 4 := by rw [B_size]; simp; omega
    refine Ev.step (fun k => by simp only [head_Write.l1]; rfl) ?_;rw [rd_F fs i hlt];rw [e1, s1, s2, s3, s4, s5];refine Ev.pos zO (Ev.pos zO (Ev.pos (by rw [List.length_map]; omega) (Ev.pos zO (Ev.pos zO (Ev.pos zO (Ev.pos (by rw [N8_len, List.length_append]; omega) ?_))))));rw [N8_app, hw, List.append_assoc, ← flatW_take fs i hlt];exact hi'
theorem write_j3 (m p q hh : List UInt8) (fs : List Fd) (hpre : (preW m p q).length ≤ 100000000) (hsz : szF fs ≤ 100000000) (hfs : fs.length ≤ 100000000) :
    Ev (fun k => head_Write.j3 k (bytesOf (B (m ++ 32 :: tgt p q))) (B m) (B p) (B q) (B hh) (fs.map sF)) (W2 m p q fs true 1) := by
  have h := write_l1 m p q hh fs hpre hsz hfs fs.length 0 zO;have e1 : bytesOf (⟨#[32, 72, 84, 84, 80, 47, 49, 46, 49, 13, 10]⟩ : ByteArray) = bytesOf (B (32 :: (verL ++ [13, 10]))) := rfl;have hl : (m ++ 32 :: tgt p q).length ≤ (preW m p q).length := by simp [preW]
  refine Ev.step (fun k => by simp only [head_Write.j3]; rfl) (Ev.pos (by rw [N8_len]; omega) ?_);rw [e1, N8_app, List.length_map];have e2 : m ++ 32 :: tgt p q ++ 32 :: (verL ++ [13, 10]) = preW m p q ++ flatW (fs.take 0) := by simp [preW, flatW]
  rw [e2];exact h
theorem write_j2 (m p q hh : List UInt8) (fs : List Fd) (hpre : (preW m p q).length ≤ 100000000) (hsz : szF fs ≤ 100000000) (hfs : fs.length ≤ 100000000) :
    Ev (fun k => head_Write.j2 k false (B m) (B p) (B q) (B hh) (fs.map sF)) (W2 m p q fs true 1) := by
  have h := write_j3 m p q hh fs hpre hsz hfs;have hl : m.length + (tgt p q).length + 12 = (preW m p q).length := by simp [preW, verL]; omega
  have htl := tgt_length p q;have e1 : B m ++ (⟨#[32]⟩ : ByteArray) = B (m ++ [32]) := B_append m [32];have e2 : B (m ++ [32]) ++ B p = B (m ++ 32 :: p) := by rw [B_append]; simp
  refine Ev.step (fun k => by simp only [head_Write.j2]; rfl) (Ev.neg (by simp) ?_);rw [e1, e2, B_size, B_size, B_size, B_size];refine Ev.pos zO (Ev.pos (by simp; omega) (Ev.pos (by simp; omega) (Ev.put ?_)));by_cases hq : q = []
  · refine Ev.pos (by rw [B_toList]; exact hq) ?_;rw [show m ++ 32 :: p = m ++ 32 :: tgt p q by simp [tgt, hq]];exact h
  have ht : tgt p q = p ++ 63 :: q := by simp [tgt, hq]
  have hq1 : q.length + 1 ≤ (tgt p q).length := by rw [ht]; simp
  have e3 : (⟨#[63]⟩ : ByteArray) ++ B q = B (63 :: q) := B_append [63] q;refine Ev.neg (by rw [B_toList]; exact hq) ?_;rw [e3, B_size, B_size, N8_len, N8_app];refine Ev.pos zO (Ev.pos (by simp; omega) ?_);rw [show m ++ 32 :: p ++ 63 :: q = m ++ 32 :: tgt p q by rw [ht]; simp];exact h
theorem fOk_eq {hh : List UInt8} {f : Fd} (htk : tokOk f.1 = true) (hlo : f.1.map lowB = f.1) (hvl : valOk f.2 = true) (h : f.1 = hostL) : fOk hh f = decide (hostS f.2 = (hh, true)) := by
  unfold fOk;rw [htk, hvl, zt hlo, zf (by simpa using h)];simp
theorem write_l0 (m p q hh : List UInt8) (fs : List Fd) (hpre : (preW m p q).length ≤ 100000000) (hsz : szF fs ≤ 100000000) (hfs : fs.length ≤ 100000000) : ∀ (d i : Nat), i + d = fs.length → ∀ (ok : Bool) (n : Nat), n ≤ i →
    Ev (fun k => head_Write.l0 k ok (n : Int) (fs.map sF) (fs.length : Int) (i : Int) (B m) (B p) (B q) (B hh) (fs.map sF)) (W2 m p q fs (ok && (fs.drop i).all (fOk hh)) (n + nh (fs.drop i))) := by
  intro d
  induction d with
  | zero =>
    intro i hi ok n hn;have h := write_j2 m p q hh fs hpre hsz hfs;have hT : ∀ o : Bool, (o = false ∨ n ≠ 1) → Ev (fun k => head_Write.j2 k true (B m) (B p) (B q) (B hh) (fs.map sF)) (W2 m p q fs o n) := by
      intro o ho;unfold W2;rw [zn (by rintro ⟨rfl, rfl⟩; simp at ho)];exact Ev.step (fun k => by simp only [head_Write.j2]; rfl) (Ev.pos (by trivial) (Ev.ret rfl))
    refine Ev.step (fun k => by simp only [head_Write.l0]; rfl) (Ev.neg zO ?_);rw [List.drop_eq_nil_of_le zO, List.all_nil, Bool.and_true, show nh [] = 0 from rfl, Nat.add_zero];cases ok with
    | false => exact Ev.neg (by simp) (hT false (.inl rfl))
    | true =>
      refine Ev.pos rfl ?_;by_cases h1 : n = 1
      · subst h1;exact h
      rw [show ((n : Int) != 1) = true by simp; omega];exact hT true (.inr h1)
  | succ d ih =>
    intro i hi ok n hn;have hlt : i < fs.length := by omega
    have hw := wrap_succ i zO;have hw2 := wrap_succ n zO;have hm := sz_mem (List.getElem_mem hlt);have hd : fs.drop i = fs[i] :: fs.drop (i + 1) := List.drop_eq_getElem_cons hlt;generalize hf : fs[i] = f at hm hd;have hrd : rd_T88 (fs.map sF) (i : Int) = sF f := by rw [rd_F fs i hlt, hf]
    have tk := token_is f.1 zO;have vl := value_is f.2 zO;have lo : head_lower.f (B f.1) = some (B (f.1.map lowB)) := Lower_is f.1 zO;have hx := host_is f.2 zO;have hN : nh (fs.drop i) = (if f.1 = hostL then 1 else 0) + nh (fs.drop (i + 1)) := by
      rw [hd];unfold nh;rw [List.countP_cons];by_cases h : f.1 = hostL <;> simp [h] <;> omega
    have hI : ∀ (o : Bool), Ev (fun k => head_Write.l0 k o (wrap64 ((n : Int) + 1)) (fs.map sF) (fs.length : Int) (wrap64 ((i : Int) + 1)) (B m) (B p) (B q) (B hh) (fs.map sF)) (W2 m p q fs (o && (fs.drop (i + 1)).all (fOk hh)) (n + 1 + nh (fs.drop (i + 1)))) := by
      intro o;rw [hw, hw2];exact ih (i + 1) zO o (n + 1) zO
    have hI0 : ∀ (o : Bool), Ev (fun k => head_Write.l0 k o (n : Int) (fs.map sF) (fs.length : Int) (wrap64 ((i : Int) + 1)) (B m) (B p) (B q) (B hh) (fs.map sF)) (W2 m p q fs (o && (fs.drop (i + 1)).all (fOk hh)) (n + nh (fs.drop (i + 1)))) := by
      intro o;rw [hw];exact ih (i + 1) zO o n zO
    -- whatever is no field ends at false
    have hBad : (ok && fOk hh f) = false → Ev (fun k => if (sF f).f0.toList = ([104, 111, 115, 116] : List UInt8) then ((head_Host.f k (sF f).f1).bind fun _ => head_Write.l0 k false (wrap64 ((n : Int) + 1)) (fs.map sF) (fs.length : Int) (wrap64 ((i : Int) + 1)) (B m) (B p) (B q) (B hh) (fs.map sF)) else head_Write.l0 k false (n : Int) (fs.map sF) (fs.length : Int) (wrap64 ((i : Int) + 1)) (B m) (B p) (B q) (B hh) (fs.map sF)) (W2 m p q fs (ok && (fs.drop i).all (fOk hh)) (n + nh (fs.drop i))) := by
      intro hb;have hB2 : (ok && (fs.drop i).all (fOk hh)) = (false && (fs.drop (i + 1)).all (fOk hh)) := by
        rw [hd, List.all_cons, ← Bool.and_assoc, hb]
      rw [hB2, hN];by_cases h : f.1 = hostL
      · rw [zp h, ← Nat.add_assoc];exact Ev.pos (by show (B f.1).toList = _; rw [B_toList]; exact h) (Ev.bind hx (hI false))
      rw [zn h, Nat.zero_add];exact Ev.neg (by show ¬ (B f.1).toList = _; rw [B_toList]; exact h) (hI0 false)
    refine Ev.step (fun k => by simp only [head_Write.l0]; rfl) ?_;rw [hrd];refine Ev.pos zO (Ev.pos zO (Ev.pos (by rw [List.length_map]; omega) ?_));cases ok with
    | false => exact Ev.neg (by simp) (hBad (by rw [Bool.false_and]))
    | true =>
      refine Ev.pos rfl (Ev.bind tk ?_);cases htk : tokOk f.1 with
      | false => exact Ev.neg (by simp) (hBad (by simp [fOk, htk]))
      | true =>
        refine Ev.pos rfl (Ev.call lo ?_);by_cases hlo : f.1.map lowB = f.1;rotate_left
        · exact Ev.neg (by show ¬ (B (f.1.map lowB)).toList = (B f.1).toList; rw [B_toList, B_toList]; exact hlo) (hBad (by simp [fOk, hlo]))
        refine Ev.pos (by show (B (f.1.map lowB)).toList = (B f.1).toList; rw [hlo]) (Ev.bind vl ?_);have hall : (true && (fs.drop i).all (fOk hh)) = ((true && fOk hh f) && (fs.drop (i + 1)).all (fOk hh)) := by rw [hd, List.all_cons, Bool.and_assoc]
        rw [hall, hN];by_cases h : f.1 = hostL;rotate_left
        · rw [zn h, Nat.zero_add];refine Ev.neg (by show ¬ (B f.1).toList = _; rw [B_toList]; exact h) ?_;have he : valOk f.2 = (true && fOk hh f) := by simp [fOk, htk, hlo, h]
          rw [← he];exact hI0 _
        rw [zp h, ← Nat.add_assoc];refine Ev.pos (by show (B f.1).toList = _; rw [B_toList]; exact h) (Ev.bind hx ?_);cases hvl : valOk f.2 with
        | false =>
          rw [show (true && fOk hh f) = false by simp [fOk, hvl]];exact Ev.neg (by simp) (hI false)
        | true =>
          refine Ev.pos rfl ?_;cases hb : (hostS f.2).2 with
          | false =>
            rw [show (true && fOk hh f) = false by simp [fOk, h]; intro _ _ _ hq; rw [hq] at hb; cases hb];exact Ev.neg (by show ¬ (hostR f.2).2 = true; unfold hostR; simp [hb]) (hI false)
          | true =>
            refine Ev.pos (by show (hostR f.2).2 = true; exact hb) ?_;have he : ((hostR f.2).1.toList == (B hh).toList) = (true && fOk hh f) := by
              show ((B (hostS f.2).1).toList == (B hh).toList) = _
              rw [B_toList, B_toList, Bool.true_and, fOk_eq htk hlo hvl h, Bool.eq_iff_iff, beq_iff_eq, decide_eq_true_eq]
              constructor
              · intro hq;rw [← hq, ← hb]
              intro hq;rw [hq]
            rw [he];exact hI _
theorem write_is (m p q hh : List UInt8) (fs : List Fd) (hpre : (preW m p q).length ≤ 100000000) (hsz : szF fs ≤ 100000000) (hfs : fs.length ≤ 100000000) :
    Ev (fun k => head_Write.f k (B m) (B p) (B q) (B hh) (fs.map sF)) (W2 m p q fs (wOk m p q hh fs) (nh fs)) := by
  have hl : m.length + (tgt p q).length + 12 = (preW m p q).length := by simp [preW, verL]; omega
  have htl := tgt_length p q;have hJ : ∀ o : Bool, Ev (fun k => head_Write.j0 k o (B m) (B p) (B q) (B hh) (fs.map sF)) (W2 m p q fs (o && fs.all (fOk hh)) (nh fs)) := by
    intro o;have h := write_l0 m p q hh fs hpre hsz hfs fs.length 0 zO o 0 zO;rw [List.drop_zero, Nat.zero_add] at h;refine Ev.step (fun k => by simp only [head_Write.j0]; rfl) ?_;rw [List.length_map];exact h
  unfold head_Write.f wOk;refine Ev.bind (token_is m zO) ?_;cases tokOk m with
  | false => exact Ev.neg (by simp) (hJ false)
  | true =>
    refine Ev.pos rfl (Ev.bind (path_is p zO) ?_);cases pathL p with
    | false => exact Ev.neg (by simp) (hJ false)
    | true => exact Ev.pos rfl (Ev.bind (such_is true q zO) (hJ _))
theorem W2_cases (m p q : List UInt8) (fs : List Fd) (ok : Bool) (n : Nat) : (∃ e : Int, (e = 4 ∨ e = 6) ∧ W2 m p q fs ok n = ([], e)) ∨ (ok = true ∧ n = 1 ∧ fs.length ≤ 32 ∧ (writeL m p q fs).length ≤ 2048 ∧ W2 m p q fs ok n = (bytesOf (B (writeL m p q fs)), 0)) := by
  unfold W2;by_cases h1 : ok = true ∧ n = 1
  · rw [zp h1];by_cases h2 : 32 < fs.length ∨ 2048 < (writeL m p q fs).length
    · rw [zp h2];exact .inl ⟨6, .inr rfl, rfl⟩
    rw [zn h2];exact .inr ⟨h1.1, h1.2, zO, zO, rfl⟩
  rw [zn h1];exact .inl ⟨4, .inl rfl, rfl⟩
theorem cut_le (s sep : List UInt8) : (Lib.cut s sep).1.length ≤ s.length ∧ (Lib.cut s sep).2.1.length ≤ s.length := by
  unfold Lib.cut
  split
  · simp;omega
  simp
theorem Ev.ite {α : Type} {c : Prop} [Decidable c] {a b : Nat → Option α} {x y : α} (h1 : c → Ev a x) (h2 : ¬ c → Ev b y) : Ev (fun k => if c then a k else b k) (if c then x else y) := by
  by_cases h : c
  · rw [zp h]; exact Ev.pos h (h1 h)
  rw [zn h]; exact Ev.neg h (h2 h)
def lineS (ln : List UInt8) : Option Fd :=
  if (Lib.cut ln [58]).2.2 = true ∧ tokOk (Lib.cut ln [58]).1 = true ∧ valOk (Lib.trimS (Lib.cut ln [58]).2.1 [9, 32]) = true then some ((Lib.cut ln [58]).1.map lowB, Lib.trimS (Lib.cut ln [58]).2.1 [9, 32]) else none
def loopS (E : Int) (m p q hh : ByteArray) : List (List UInt8) → Nat → List UInt8 → List Fd → HR
  | [], n, ho, acc => fin E m p q hh n (B ho) (acc.map sF)
  | ln :: r, n, ho, acc => match lineS ln with
    | none => errR 4
    | some f => if f.1 = hostL then (if (hostS f.2).2 = true then loopS E m p q hh r (n + 1) (hostS f.2).1 (acc ++ [f]) else errR 4) else loopS E m p q hh r n ho (acc ++ [f])
set_option maxHeartbeats 4000000 in
theorem loopS_is (E : Int) (hE : 0 ≤ E ∧ E ≤ 100000) (m p q hh : ByteArray) (lines : List ByteArray) (hll : lines.length ≤ 100000) :
    ∀ (ls : List (List UInt8)) (pre : List ByteArray) (n : Nat) (ho : List UInt8) (acc : List Fd),
      lines = pre ++ ls.map B → (∀ l ∈ ls, l.length ≤ 1000000000) →
      n ≤ pre.length → acc.length ≤ pre.length →
      Ev (fun k => head_Parse.l0 k E lines (n : Int) (pre.length : Int) (B ho) m p q hh (acc.map sF)) (loopS E m p q hh ls n ho acc) := by
  intro ls
  induction ls with
  | nil =>
    intro pre n ho acc hl _ hn ha;have hw : wrap64 (E + 4) = E + 4 := by unfold wrap64; omega
    rw [List.map_nil, List.append_nil] at hl;subst hl;refine Ev.step (fun k => by simp only [head_Parse.l0]; rfl) (Ev.neg zO ?_);rw [hw]
    show Ev _ (fin E m p q hh n (B ho) (acc.map sF))
    unfold fin;by_cases h1 : n = 1;rotate_left
    · rw [zn h1];exact Ev.neg zO (Ev.ret rfl)
    rw [zp h1];refine Ev.pos zO ?_;by_cases h2 : 32 < (acc.map sF).length
    · rw [zp h2];exact Ev.pos zO (Ev.ret rfl)
    rw [zn h2];refine Ev.neg zO ?_;by_cases h3 : hh.toList = []
    · rw [zp h3];simp only [zp h3];exact Ev.ret rfl
    rw [zn h3];simp only [zn h3];exact Ev.ret rfl
  | cons ln ls ih =>
    intro pre n ho acc hl hg hn ha;have g1 := hg ln (by simp);have hlen : pre.length + (ls.length + 1) = lines.length := by rw [hl]; simp
    have hrd : rdOf ByteArray.empty lines (pre.length : Int) = B ln := by
      rw [hl];simp [rdOf]
    have c1 : strings_Cut.f (B ln) (⟨#[58]⟩ : ByteArray) = some (B (Lib.cut ln [58]).1, B (Lib.cut ln [58]).2.1, (Lib.cut ln [58]).2.2) := Cut_is ln [58] zO;obtain ⟨le1, le2⟩ := cut_le ln [58];have t1 : strings_Trim.f (B (Lib.cut ln [58]).2.1) (⟨#[9, 32]⟩ : ByteArray) = some (B (Lib.trimS (Lib.cut ln [58]).2.1 [9, 32])) := Trim_is (Lib.cut ln [58]).2.1 [9, 32] zO (by decide) (by decide);have htl := trim_le (Lib.cut ln [58]).2.1 [9, 32];have tk := token_is (Lib.cut ln [58]).1 zO;have vl := value_is (Lib.trimS (Lib.cut ln [58]).2.1 [9, 32]) zO;have lo : head_lower.f (B (Lib.cut ln [58]).1) = some (B ((Lib.cut ln [58]).1.map lowB)) := Lower_is (Lib.cut ln [58]).1 zO;have hx := host_is (Lib.trimS (Lib.cut ln [58]).2.1 [9, 32]) zO;have hw1 : wrap64 ((pre.length : Int) + 1) = ((pre ++ [B ln]).length : Int) := by
      rw [List.length_append];unfold wrap64;simp;omega
    have hw2 : wrap64 ((n : Int) + 1) = ((n + 1 : Nat) : Int) := by unfold wrap64; omega
    have hl' : lines = (pre ++ [B ln]) ++ ls.map B := by rw [hl]; simp
    have hg' : ∀ x ∈ ls, x.length ≤ 1000000000 := fun x hx => hg x (by simp [hx])
    have hp : (pre ++ [B ln]).length = pre.length + 1 := by simp
    rw [loopS];generalize hc1 : (Lib.cut ln [58]).1 = nm at *;generalize hc2 : (Lib.cut ln [58]).2.1 = v0 at *;generalize hc3 : (Lib.cut ln [58]).2.2 = is at *;generalize hv : Lib.trimS v0 [9, 32] = v at *;have hline : lineS ln = if is = true ∧ tokOk nm = true ∧ valOk v = true then some (nm.map lowB, v) else none := by
      unfold lineS;rw [hc1, hc2, hc3, hv]
    rw [hline];have hac2 : (acc ++ [(nm.map lowB, v)]).length ≤ (pre ++ [B ln]).length := by rw [hp, List.length_append]; exact Nat.succ_le_succ ha
    have hn1 : n + 1 ≤ (pre ++ [B ln]).length := by rw [hp]; exact Nat.succ_le_succ hn
    have hn0 : n ≤ (pre ++ [B ln]).length := by rw [hp]; exact Nat.le_succ_of_le hn
    have hacl : (acc.map sF).length = acc.length := List.length_map ..;refine Ev.step (fun k => by simp only [head_Parse.l0]; rfl) ?_;refine Ev.pos zO (Ev.pos zO ?_);rw [hrd];refine Ev.call c1 (Ev.call t1 ?_);cases is with
    | false =>
      rw [zn (by simp)];exact Ev.neg (by simp) (Ev.step (fun k => by simp only [head_Parse.j2]; rfl) (Ev.pos (by trivial) (Ev.ret rfl)))
    | true =>
      refine Ev.pos rfl (Ev.bind tk ?_);cases htk : tokOk nm with
      | false =>
        rw [zn (by simp)];exact Ev.neg (by simp) (Ev.step (fun k => by simp only [head_Parse.j2]; rfl) (Ev.pos (by trivial) (Ev.ret rfl)))
      | true =>
        refine Ev.pos rfl (Ev.bind vl ?_);cases hvl : valOk v with
        | false =>
          rw [zn (by simp)];exact Ev.step (fun k => by simp only [head_Parse.j2]; rfl) (Ev.pos (by trivial) (Ev.ret rfl))
        | true =>
          rw [zp ⟨rfl, rfl, rfl⟩]
          show Ev _ (if nm.map lowB = hostL then (if (hostS v).2 = true then loopS E m p q hh ls (n + 1) (hostS v).1 (acc ++ [(nm.map lowB, v)]) else errR 4) else loopS E m p q hh ls n ho (acc ++ [(nm.map lowB, v)]))
          refine Ev.step (fun k => by simp only [head_Parse.j2]; rfl) ?_;refine Ev.neg (by decide) (Ev.call lo (Ev.pos zO (Ev.put (Ev.call lo ?_))));have hsnoc : acc.map sF ++ [⟨B (nm.map lowB), B v⟩] = (acc ++ [(nm.map lowB, v)]).map sF := by simp [sF]
          rw [hsnoc];by_cases hq : nm.map lowB = hostL
          · rw [zp hq];refine Ev.pos (by rw [B_toList]; exact hq) (Ev.bind hx ?_);cases hb : (hostS v).2 with
            | false =>
              rw [zn (by simp)];exact Ev.neg (by show ¬ (hostR v).2 = true; unfold hostR; simp [hb]) (Ev.ret rfl)
            | true =>
              rw [zp rfl];refine Ev.pos (by show (hostR v).2 = true; exact hb) ?_;have h := ih (pre ++ [B ln]) (n + 1) (hostS v).1 (acc ++ [(nm.map lowB, v)]) hl' hg' hn1 hac2;rw [hw1, hw2];exact h
          rw [zn hq];refine Ev.neg (by rw [B_toList]; exact hq) ?_;have h := ih (pre ++ [B ln]) n ho (acc ++ [(nm.map lowB, v)]) hl' hg' hn0 hac2;rw [hw1];exact h
def httpL : List UInt8 := [104, 116, 116, 112, 58, 47, 47]
def endS (p q hh : List UInt8) : List UInt8 × List UInt8 × List UInt8 × Bool := (p, q, hh, pathL p && suchL true q)
def farS (rest q : List UInt8) : List UInt8 × List UInt8 × List UInt8 × Bool :=
  let k := Lib.indexByte rest 47
  let ho := if k < 0 then rest else rest.take k.toNat
  let pp := if k < 0 then [47] else rest.drop k.toNat
  if (hostS ho).2 = true then endS pp q (hostS ho).1 else ([], [], [], false)
def targetS (t : List UInt8) : List UInt8 × List UInt8 × List UInt8 × Bool :=
  if Lib.hasPrefix (Lib.cut t [63]).1 httpL = true then farS (Lib.trimPrefix (Lib.cut t [63]).1 httpL) (Lib.cut t [63]).2.1
  else endS (Lib.cut t [63]).1 (Lib.cut t [63]).2.1 []
def tR (x : List UInt8 × List UInt8 × List UInt8 × Bool) : ByteArray × ByteArray × ByteArray × Bool := (B x.1, B x.2.1, B x.2.2.1, x.2.2.2)
theorem end_is (p q hh : List UInt8) (hp : p.length ≤ 1000000000) (hq : q.length ≤ 1000000000) : Ev (fun k => (head_path.f k (B p)).bind fun t137 => if t137 = true then ((head_such.f k (B q) true).bind fun t138 => (some (B p, B q, B hh, t138))) else (some (B p, B q, B hh, false))) (tR (endS p q hh)) := by
  refine Ev.bind (path_is p zO) ?_;unfold tR endS;cases pathL p with
  | false => exact Ev.neg (by simp) (Ev.ret rfl)
  | true => exact Ev.pos rfl (Ev.bind (such_is true q zO) (Ev.ret rfl))
theorem far_is (pp q ho : List UInt8) (hp : pp.length ≤ 1000000000) (hq : q.length ≤ 1000000000) (hh : ho.length ≤ 1000000000) : Ev (fun k => head_target.j0 k (B pp) (B q) (B ho)) (tR (if (hostS ho).2 = true then endS pp q (hostS ho).1 else ([], [], [], false))) := by
  refine Ev.step (fun k => by simp only [head_target.j0]; rfl) (Ev.bind (host_is ho hh) ?_);by_cases h : (hostS ho).2 = true
  · rw [zp h];exact Ev.pos h (end_is pp q (hostS ho).1 hp hq)
  rw [zn h];exact Ev.neg h (Ev.ret rfl)
theorem targetS_is (t : List UInt8) (ht : t.length ≤ 1000000000) : Ev (fun k => head_target.f k (B t)) (tR (targetS t)) := by
  have hc : strings_Cut.f (B t) (⟨#[63]⟩ : ByteArray) = some (B (Lib.cut t [63]).1, B (Lib.cut t [63]).2.1, (Lib.cut t [63]).2.2) := Cut_is t [63] zO;obtain ⟨l1, l2⟩ := cut_le t [63];have hx : strings_CutPrefix.f (B (Lib.cut t [63]).1) (⟨#[104, 116, 116, 112, 58, 47, 47]⟩ : ByteArray) = some (B (Lib.trimPrefix (Lib.cut t [63]).1 httpL), Lib.hasPrefix (Lib.cut t [63]).1 httpL) := by
    unfold strings_CutPrefix.f;rw [B_list];rfl
  have hl := Lib.trimPrefix_le (Lib.cut t [63]).1 httpL;unfold head_target.f targetS;refine Ev.call hc (Ev.call hx ?_);generalize (Lib.cut t [63]).1 = p at *;generalize (Lib.cut t [63]).2.1 = q at *;by_cases h : Lib.hasPrefix p httpL = true;rotate_left
  · rw [zn h];exact Ev.neg h (end_is p q [] zO zO)
  rw [zp h];refine Ev.pos h ?_;generalize Lib.trimPrefix p httpL = rest at *;have hb : strings_IndexByte.f (B rest) 47 = some (Lib.indexByte rest 47) := by
    unfold strings_IndexByte.f;rw [B_list];rfl
  refine Ev.call hb ?_;unfold farS;simp only;by_cases hk : Lib.indexByte rest 47 < 0
  · refine Ev.pos hk ?_;rw [zp hk, zp hk];exact far_is [47] q rest (by simp) zO zO
  have hk1 : Lib.indexByte rest 47 ≤ rest.length := by
    obtain ⟨o, ho⟩ : ∃ o : Nat, Lib.indexByte rest 47 = o := ⟨(Lib.indexByte rest 47).toNat, zO⟩;have h1 := (Lib.indexByte_some ho).1;have h2 := (List.getElem?_eq_some_iff.1 h1).1;omega
  refine Ev.neg hk (Ev.pos zO (Ev.pos (by rw [B_size]; exact hk1) ?_));rw [zn hk, zn hk, B_size, B_extract, B_extract];have e1 : (rest.drop (Lib.indexByte rest 47).toNat).take (rest.length - (Lib.indexByte rest 47).toNat) = rest.drop (Lib.indexByte rest 47).toNat := List.take_of_length_le (by simp);rw [e1, List.drop_zero, Nat.sub_zero];exact far_is _ q _ (by simp; omega) zO (by simp; omega)
def headS (e : Int) (ls : List (List UInt8)) : HR :=
  let c := Lib.cut (ls.headD []) [32]
  let d := Lib.cut c.2.1 [32]
  let t := targetS d.1
  if t.2.2.2 = true ∧ tokOk c.1 = true ∧ d.2.1 = verL then loopS e (B c.1) (B t.1) (B t.2.1) (B t.2.2.1) ls.tail 0 [] [] else errR 4
def parseS (b : List UInt8) : HR :=
  if Lib.index (b.take 2048) [13, 10, 13, 10] < 0 then (if b.length < 2048 then errR 3 else errR 6) else headS (Lib.index (b.take 2048) [13, 10, 13, 10]) (Lib.split (b.take (Lib.index (b.take 2048) [13, 10, 13, 10]).toNat) [13, 10])
theorem splitK_ne (sub : List UInt8) (k : Nat) (s : List UInt8) : Lib.splitK sub 0 k s ≠ [] := by
  cases k with
  | zero => simp [Lib.splitK]
  | succ k =>
    simp only [Lib.splitK]
    split <;> simp
theorem split_ne (s sub : List UInt8) : Lib.split s sub ≠ [] := splitK_ne _ _ _
theorem parseS_is (b : List UInt8) : Ev (fun k => head_Parse.f k (bytesOf (B b))) (parseS b) := by
  have hl : (b.map (fun x => (x.toNat : Int))).length = b.length := List.length_map ..;obtain ⟨M, hM, hM1, hM2⟩ : ∃ M : Nat, mn (b.length : Int) 2048 = (M : Int) ∧ M ≤ b.length ∧ b.take M = b.take 2048 := by
    unfold mn
    split
    · exact ⟨2048, rfl, zO, rfl⟩
    refine ⟨b.length, rfl, zh _, ?_⟩;rw [List.take_of_length_le (zh _), List.take_of_length_le zO]
  unfold head_Parse.f;rw [N8_B, hl, hM];refine Ev.pos zO (Ev.pos zO ?_);rw [Int.toNat_natCast, ← List.map_take, hM2];have hix : bytes_Index.f ((b.take 2048).map (fun b => (b.toNat : Int))) ([13, 10, 13, 10] : List Int) = some (Lib.index (b.take 2048) [13, 10, 13, 10]) := by
    rw [show ([13, 10, 13, 10] : List Int) = ([13, 10, 13, 10] : List UInt8).map (fun b => (b.toNat : Int)) from rfl, Index_is _ _ (by rw [List.length_take]; omega) (by decide) (by decide)]
  refine Ev.call hix ?_;have hroom := Lib.index_room (b.take 2048) [13, 10, 13, 10];rw [List.length_take] at hroom;unfold parseS;generalize Lib.index (b.take 2048) [13, 10, 13, 10] = e at *;by_cases he : e < 0
  · rw [zp he];refine Ev.pos he ?_;by_cases h2 : b.length < 2048
    · rw [zp h2];exact Ev.pos zO (Ev.ret rfl)
    rw [zn h2];exact Ev.neg zO (Ev.ret rfl)
  rw [zn he];have hr := hroom zO;simp only [List.length_cons, List.length_nil] at hr;refine Ev.neg he (Ev.pos zO (Ev.pos zO ?_));rw [← List.map_take, strOf_N8];have htl : (b.take e.toNat).length ≤ 2048 := by rw [List.length_take]; omega
  generalize b.take e.toNat = s at *;have hsp : strings_Split.f (B s) (⟨#[13, 10]⟩ : ByteArray) = some ((Lib.split s [13, 10]).map B) := Split_is s [13, 10] zO (by decide);refine Ev.call hsp ?_;obtain ⟨n1, n2⟩ := split_len s [13, 10];have hne := split_ne s [13, 10];generalize Lib.split s [13, 10] = ls at *;cases ls with
  | nil => exact absurd rfl hne
  | cons ln ls =>
    have hlen : (((ln :: ls).map B).length : Int) = ls.length + 1 := by simp
    refine Ev.pos (by rw [hlen]; omega) ?_;have hrd : rdOf ByteArray.empty ((ln :: ls).map B) 0 = B ln := by simp [rdOf]
    rw [hrd];have hln := n2 ln (by simp);have hls : ls.length ≤ 2050 := by simp at n1; omega
    obtain ⟨a1, a2⟩ := cut_le ln [32];have c1 : strings_Cut.f (B ln) (⟨#[32]⟩ : ByteArray) = some (B (Lib.cut ln [32]).1, B (Lib.cut ln [32]).2.1, (Lib.cut ln [32]).2.2) := Cut_is ln [32] zO;unfold headS;rw [show (ln :: ls).headD [] = ln from rfl, show (ln :: ls).tail = ls from rfl];generalize hm : (Lib.cut ln [32]).1 = m at *;generalize hr2 : (Lib.cut ln [32]).2.1 = rest at *;obtain ⟨b1, b2⟩ := cut_le rest [32];have c2 : strings_Cut.f (B rest) (⟨#[32]⟩ : ByteArray) = some (B (Lib.cut rest [32]).1, B (Lib.cut rest [32]).2.1, (Lib.cut rest [32]).2.2) := Cut_is rest [32] zO;refine Ev.call c1 (Ev.call c2 ?_);simp only;rw [hm, hr2];generalize (Lib.cut rest [32]).1 = t at *;generalize (Lib.cut rest [32]).2.1 = ver at *;refine Ev.bind (targetS_is t zO) ?_;have hbad : ∀ (x : ByteArray × ByteArray × ByteArray × Bool), Ev (fun k => head_Parse.j0 k e ((ln :: ls).map B) 0 1 (⟨#[]⟩ : ByteArray) (B m) true (⟨#[]⟩ : ByteArray) x.1 x.2.1 x.2.2.1) (errR 4) := fun x => Ev.step (fun k => by simp only [head_Parse.j0]; rfl) (Ev.pos (by trivial) (Ev.ret rfl))
    by_cases ht : (targetS t).2.2.2 = true;rotate_left
    · rw [zn (fun h => ht h.1)];exact Ev.neg ht (hbad (tR (targetS t)))
    refine Ev.pos ht (Ev.bind (token_is m zO) ?_);by_cases hm2 : tokOk m = true
    · refine Ev.pos hm2 ?_;rw [B_toList];by_cases hv : ver = verL
      · rw [zp ⟨ht, hm2, hv⟩, show (ver != ([72, 84, 84, 80, 47, 49, 46, 49] : List UInt8)) = false by rw [hv]; decide];have h := loopS_is e zO (B m) (B (targetS t).1) (B (targetS t).2.1) (B (targetS t).2.2.1) ((ln :: ls).map B) (by simp; omega) ls [B ln] 0 [] [] (by simp) (fun l hl => by have := n2 l (by simp [hl]); omega) zO (by simp);exact Ev.step (fun k => by simp only [head_Parse.j0]; rfl) (Ev.neg (by simp) h)
      rw [zn (fun h => hv h.2.2), show (ver != ([72, 84, 84, 80, 47, 49, 46, 49] : List UInt8)) = true by simpa [verL] using hv];exact hbad (tR (targetS t))
    rw [zn (fun h => hm2 h.2.1)];exact Ev.neg hm2 (hbad (tR (targetS t)))
end Go.Proofs.YtpigfccpogmeaaaGreatDoor.HP
end
section
namespace Go.Proofs.YtpigfccpogmeaaaGreatDoor.S
open Go.RowKit Go.Proofs.YtpigfccpogmeaaaGreatDoorW.PrintWords Go.Proofs.YtpigfccpogmeaaaGreatDoorW.PrintLast Go.Proofs.YtpigfccpogmeaaaGreatDoorW.PrintMore
set_option linter.unusedVariables false
set_option linter.unusedSimpArgs false
def PlaneAt (W : World) (g : Nat) (f0 : Int) (f1 : List S54) (f2 : List S58) : Prop :=
  ∃ A1 c1 A2 c2, W.heap[g]? = some (.cells #[.int .i64 f0, .slice A1 f1.length c1, .slice A2 f2.length c2] 70 (0, 0)) ∧ Kd.C k54 W A1 f1.length f1 ∧ f1.length ≤ c1 ∧ Kd.C k58 W A2 f2.length f2 ∧ f2.length ≤ c2
theorem PlaneAt.below {W W1 : World} {g : Nat} {f0 : Int} {f1 : List S54} {f2 : List S58} (h : PlaneAt W g f0 f1 f2) (hb : Below W.heap.size W W1) : PlaneAt W1 g f0 f1 f2 := by
  obtain ⟨A1, c1, A2, c2, h0, h1, h2, h3, h4⟩ := h;exact ⟨A1, c1, A2, c2, blk_below h0 hb, Kd.C_below h1 hb, h2, Kd.C_below h3 hb, h4⟩
set_option maxHeartbeats 2000000 in
theorem new_ok (w : World) : Calls Tryz.prog 5 #[] w fun e w' => ∃ g, e = .returned (.pointer (some ⟨g, 0, none⟩)) ∧ w.heap.size ≤ g ∧ PlaneAt w' g 0 [] [] ∧ Below w.heap.size w w' :=
  (plane_New.calls 0 [] [] w w (Below.refl _ _) rfl).mono fun e w' h => by
    obtain ⟨g, h1, ⟨A1, c1, A2, c2, hb, hg, hr1, hr2⟩, h3, h4⟩ := h;exact ⟨g, h1, hg, ⟨A1, c1, A2, c2, hb, Kd.C_below hr1 h3, Nat.zero_le _, Kd.C_below hr2 h3, Nat.zero_le _⟩, h3⟩
set_option maxHeartbeats 2000000 in
set_option maxRecDepth 100000 in
theorem version_ok {g : Nat} {f0 : Int} {f1 : List S54} {f2 : List S58} {w : World} (h : PlaneAt w g f0 f1 f2) :
    Calls Tryz.prog 12 #[.pointer (some ⟨g, 0, none⟩)] w fun e w' => e = .returned (.int .i64 f0) ∧ Below w.heap.size w w' := by
  obtain ⟨A1, c1, A2, c2, h0, h1, h2, h3, h4⟩ := h;have q0 := cellS70_0 h0;have hu97 := Tryz.underlying70;have hu55 := Tryz.underlying44;clear h1 h3;go_enter Tryz.func12, Tryz.ntmps12;go_wp2;go_ret;exact ⟨rfl, Below.refl _ _⟩
set_option maxHeartbeats 2000000 in
set_option maxRecDepth 100000 in
theorem apply_stale {g : Nat} {f0 : Int} {f1 : List S54} {f2 : List S58} {w : World} (h : PlaneAt w g f0 f1 f2) (a : Int) (v1 v2 : Value) (hv1 : v1.oneCell' = true) (hv2 : v2.oneCell' = true) (ha : a ≤ f0) :
    Calls Tryz.prog 8 #[.pointer (some ⟨g, 0, none⟩), .agg #[.int .i64 a, v1, v2]] w fun e w' => e = .returned (.int .i64 12) ∧ Below w.heap.size w w' := by
  obtain ⟨A1, c1, A2, c2, h0, h1, h2, h3, h4⟩ := h;have HB := zN (Below.refl w.heap.size w);have H0 := zN h0;have hu97 := Tryz.underlying70;have hu55 := Tryz.underlying44;clear h0 h1 h3;go_enter Tryz.func8, Tryz.ntmps8;go_wp2_with (first | ((with_reducible refine gate_dst (N := 3) rfl ?_); refine zX #[.int .i64 a, v1, v2] 44 rfl ?_; intro gb hg w1 hbox hb; have n0_ := zN (below_step HB.out hb); have q0 := cellS70_0 (blk_below H0.out hb); have c0 : w1.cell? ⟨gb, 0, none⟩ = some (.int .i64 a) := (blk_cell hbox 0).trans rfl; clear HB; have HB := n0_; clear hb hbox hg n0_));go_still (by rfl);go_wp2;go_ret;exact ⟨rfl, below_drew1 HB.out⟩
def RawOf (w : World) (x : S58) (y : ByteArray × (Option Addr × Nat × Nat)) : Prop :=
  y.1 = x.f0 ∧ y.2.2.1 = x.f1.length ∧ x.f1.length ≤ y.2.2.2 ∧ Kd.C k62 w y.2.1 x.f1.length x.f1
theorem RawOf.below {w w1 : World} {x : S58} {y : ByteArray × (Option Addr × Nat × Nat)} (h : RawOf w x y) (hb : Below w.heap.size w w1) : RawOf w1 x y := ⟨h.1, h.2.1, h.2.2.1, Kd.C_below h.2.2.2 hb⟩
theorem raw_one {w : World} {x : S58} {c : List Value} (h : k58.K w x c) : ∃ y, kraw.K w y c ∧ RawOf w x y := by
  obtain ⟨c1, c2, rfl, rfl, A, cap, rfl, hl, hr⟩ := h;exact ⟨(x.f0, (A, x.f1.length, cap)), ⟨_, _, rfl, rfl, rfl⟩, rfl, rfl, hl, hr⟩
theorem raw_back {w : World} {x : S58} {y : ByteArray × (Option Addr × Nat × Nat)} {c : List Value} (h : kraw.K w y c) (hr : RawOf w x y) : k58.K w x c := by
  obtain ⟨c1, c2, rfl, rfl, rfl⟩ := h;obtain ⟨h1, h2, h3, h4⟩ := hr;refine ⟨_, _, rfl, ?_, y.2.1, y.2.2.2, ?_, h3, h4⟩
  · rw [h1]; rfl
  show [Value.slice y.2.1 y.2.2.1 y.2.2.2] = [Value.slice y.2.1 x.f1.length y.2.2.2]
  rw [h2]
theorem raw_of {w : World} {A : Option Addr} {l : List S58} (h : Kd.C k58 w A l.length l) :
    ∃ rl : List (ByteArray × (Option Addr × Nat × Nat)), rl.length = l.length ∧ Kd.C kraw w A rl.length rl ∧ ∀ (j : Nat) (x : S58) (y : ByteArray × (Option Addr × Nat × Nat)), l[j]? = some x → rl[j]? = some y → RawOf w x y := by
  obtain ⟨hl, hm, hr⟩ := h
  rcases Nat.eq_zero_or_pos l.length with h0 | h0
  · have : l = [] := List.length_eq_zero_iff.1 h0;subst this;exact ⟨[], rfl, ⟨rfl, by simp, fun h => absurd h (Nat.lt_irrefl 0)⟩, fun j x y hx _ => by simp at hx⟩
  obtain ⟨ad, hA, hc⟩ := hr h0;have H : ∀ i : Fin l.length, ∃ y, ∃ c : List Value, c.length = 2 ∧ kraw.K w y c ∧ RawOf w l[i] y ∧ ∀ k u, c[k]? = some u → w.cell? (ad.add (i.1 * 2 + k)) = some u := by
    intro i;obtain ⟨c, h1, h2, h3⟩ := hc i.1 l[i] (zr i.2);obtain ⟨y, h4, h5⟩ := raw_one h2;exact ⟨y, c, h1, h4, h5, h3⟩
  obtain ⟨f, hf⟩ := Classical.axiomOfChoice H;refine ⟨List.ofFn f, List.length_ofFn, ⟨rfl, by rw [List.length_ofFn]; exact hm, fun _ => ⟨ad, hA, fun j p hp => ?_⟩⟩, fun j x y hx hy => ?_⟩
  · have hj : j < (List.ofFn f).length := (List.getElem?_eq_some_iff.1 hp).1;have hj2 : j < l.length := by rwa [List.length_ofFn] at hj
    rw [zr hj, List.getElem_ofFn] at hp;obtain rfl := zo hp;obtain ⟨c, h1, h2, h3, h4⟩ := hf ⟨j, hj2⟩;exact ⟨c, h1, h2, h4⟩
  have hj : j < (List.ofFn f).length := (List.getElem?_eq_some_iff.1 hy).1;have hj2 : j < l.length := by rwa [List.length_ofFn] at hj
  rw [zr hj, List.getElem_ofFn] at hy;rw [zr hj2] at hx;obtain rfl := zo hy;obtain rfl := zo hx;obtain ⟨c, h1, h2, h3, h4⟩ := hf ⟨j, hj2⟩;exact h3
theorem raw_row {w : World} {A : Option Addr} {l : List S58} {rl : List (ByteArray × (Option Addr × Nat × Nat))} (hl : rl.length = l.length) (h : Kd.C kraw w A rl.length rl) (hR : ∀ (j : Nat) (x : S58) (y : ByteArray × (Option Addr × Nat × Nat)), l[j]? = some x → rl[j]? = some y → RawOf w x y) : Kd.C k58 w A l.length l := by
  obtain ⟨h1, h2, h3⟩ := h;refine ⟨rfl, zO, fun h0 => ?_⟩;obtain ⟨ad, hA, hc⟩ := h3 zO;refine ⟨ad, hA, fun j x hx => ?_⟩;have hj : j < rl.length := by have := (List.getElem?_eq_some_iff.1 hx).1; omega
  obtain ⟨c, g1, g2, g3⟩ := hc j rl[j] (zr hj);exact ⟨c, g1, raw_back g2 (hR j x _ hx (zr hj)), g3⟩
def RawBlk (w : World) (g : Nat) (rl : List (ByteArray × (Option Addr × Nat × Nat))) : Prop :=
  ∃ cur : Array Value, w.heap[g]? = some (.cells cur 58 (0, 0)) ∧ ∀ (j : Nat) (y : ByteArray × (Option Addr × Nat × Nat)), rl[j]? = some y → cur[j * 2]? = some (.string y.1) ∧ cur[j * 2 + 1]? = some (.slice y.2.1 y.2.2.1 y.2.2.2)
theorem rawblk_of {w : World} {base : Nat} {v : Value} {rl : List (ByteArray × (Option Addr × Nat × Nat))} (h : Kd.R kraw 58 w base (fun _ => True) v rl) : rl = [] ∨ ∃ g cap, v = .slice (some ⟨g, 0, none⟩) rl.length cap ∧ base ≤ g ∧ RawBlk w g rl := by
  obtain ⟨_, inner, ⟨hlen, ho⟩, hrep⟩ := h
  rcases ho with ⟨rfl, h0⟩ | ⟨g, cap, cur, rfl, hg, hb, hn, hm, hs, ht⟩
  · exact .inl (List.length_eq_zero_iff.1 h0)
  refine .inr ⟨g, cap, rfl, hg, cur, hb, fun j y hj => ?_⟩;have hjl : j < rl.length := (List.getElem?_eq_some_iff.1 hj).1;obtain ⟨c0, c1, hc, h1, h2⟩ := hrep.2 j y hj
  change (inner.drop (j * 2)).take 2 = c0 ++ c1 at hc
  change cur.toList.take (rl.length * 2) = inner at ht
  have e : ∀ k, k < 2 → cur[j * 2 + k]? = ((inner.drop (j * 2)).take 2)[k]? := by
    intro k hk;rw [List.getElem?_take_of_lt hk, List.getElem?_drop, ← ht, List.getElem?_take_of_lt zO];simp
  have e0 := e 0 zO;have e1 := e 1 zO
  change c0 = [.string y.1] at h1
  change c1 = [.slice y.2.1 y.2.2.1 y.2.2.2] at h2
  rw [hc, h1, h2] at e0 e1;exact ⟨e0, e1⟩
theorem RawBlk.cell {w : World} {g : Nat} {rl : List (ByteArray × (Option Addr × Nat × Nat))} (h : RawBlk w g rl) {j : Nat} {y : ByteArray × (Option Addr × Nat × Nat)} (hj : rl[j]? = some y) :
    w.cell? ⟨g, j * 2 + 1, none⟩ = some (.slice y.2.1 y.2.2.1 y.2.2.2) ∧ w.frozen? ⟨g, j * 2 + 1, none⟩ = false := by
  obtain ⟨cur, hb, hc⟩ := h;exact ⟨(blk_cell hb _).trans (hc j y hj).2, blk_frozen hb _⟩
theorem RawBlk.keep {w w1 : World} {g : Nat} {rl : List (ByteArray × (Option Addr × Nat × Nat))} (h : RawBlk w g rl) (he : w1.heap[g]? = w.heap[g]?) : RawBlk w1 g rl := by
  obtain ⟨cur, hb, hc⟩ := h;exact ⟨cur, he.trans hb, hc⟩
theorem RawBlk.below {w w1 : World} {g : Nat} {rl : List (ByteArray × (Option Addr × Nat × Nat))} (h : RawBlk w g rl) (hb : Below w.heap.size w w1) : RawBlk w1 g rl := by
  obtain ⟨cur, hb0, hc⟩ := h;exact ⟨cur, blk_below hb0 hb, hc⟩
theorem RawBlk.set {w : World} {g : Nat} {rl : List (ByteArray × (Option Addr × Nat × Nat))} (h : RawBlk w g rl) (i : Nat) {y : ByteArray × (Option Addr × Nat × Nat)} (hi : rl[i]? = some y) (A : Option Addr) (n c : Nat) :
    RawBlk (w.setCell ⟨g, i * 2 + 1, none⟩ (.slice A n c)) g (rl.set i (y.1, (A, n, c))) := by
  obtain ⟨cur, hb, hc⟩ := h;refine ⟨_, blk_set hb _ _, fun j z hj => ?_⟩;have hil : i < rl.length := (List.getElem?_eq_some_iff.1 hi).1;have hin : i * 2 + 1 < cur.size := by
    have := (hc i y hi).2;exact (Array.getElem?_eq_some_iff.1 this).1
  rw [List.getElem?_set] at hj;by_cases hij : i = j
  · subst hij;rw [zp rfl, zp hil] at hj;obtain rfl := zo hj;refine ⟨?_, ?_⟩
    · rw [Array.getElem?_setIfInBounds_ne zO];exact (hc i y hi).1
    rw [Array.getElem?_setIfInBounds_self_of_lt hin]
  rw [zn hij] at hj;rw [Array.getElem?_setIfInBounds_ne zO, Array.getElem?_setIfInBounds_ne zO];exact hc j z hj
theorem RawBlk.row {w : World} {g : Nat} {rl : List (ByteArray × (Option Addr × Nat × Nat))} (h : RawBlk w g rl) (hm : rl.length ≤ 9223372036854775807) : Kd.C kraw w (some ⟨g, 0, none⟩) rl.length rl := by
  obtain ⟨cur, hb, hc⟩ := h;refine ⟨rfl, hm, fun _ => ⟨⟨g, 0, none⟩, rfl, fun j y hj => ⟨[.string y.1, .slice y.2.1 y.2.2.1 y.2.2.2], rfl, ⟨[.string y.1], [.slice y.2.1 y.2.2.1 y.2.2.2], rfl, rfl, rfl⟩, fun k u hk => ?_⟩⟩⟩
  change w.cell? (Addr.add ⟨g, 0, none⟩ (j * 2 + k)) = some u
  rw [add_plain, blk_cell hb];obtain ⟨h1, h2⟩ := hc j y hj
  rcases k with _ | _ | k
  · exact h1.trans (by simpa using hk)
  · exact h2.trans (by simpa using hk)
  simp at hk
def RawOwn (w : World) (base : Nat) (x : S58) (y : ByteArray × (Option Addr × Nat × Nat)) : Prop :=
  y.1 = x.f0 ∧ y.2.2.1 = x.f1.length ∧ x.f1.length ≤ y.2.2.2 ∧ Kd.R k62 62 w base (fun _ => True) (.slice y.2.1 x.f1.length y.2.2.2) x.f1
theorem RawOwn.below {w w1 : World} {base : Nat} {x : S58} {y : ByteArray × (Option Addr × Nat × Nat)} (h : RawOwn w base x y) (hb : Below w.heap.size w w1) : RawOwn w1 base x y := ⟨h.1, h.2.1, h.2.2.1, Kd.R_below h.2.2.2 hb⟩
theorem RawOwn.set {w : World} {base : Nat} {x : S58} {y : ByteArray × (Option Addr × Nat × Nat)} (h : RawOwn w base x y) {g : Nat} {rl : List (ByteArray × (Option Addr × Nat × Nat))} (hb : RawBlk w g rl) (j : Nat) (u : Value) : RawOwn (w.setCell ⟨g, j, none⟩ u) base x y := by
  obtain ⟨cur, hb0, _⟩ := hb;exact ⟨h.1, h.2.1, h.2.2.1, Kd.R_set h.2.2.2 hb0 (by decide) j u⟩
theorem RawOwn.of {w : World} {base : Nat} {x : S58} {y : ByteArray × (Option Addr × Nat × Nat)} (h : RawOwn w base x y) : RawOf w x y := by
  obtain ⟨h1, h2, h3, h4⟩ := h;obtain ⟨A, c, he, hl, hr⟩ := Kd.R_reads h4;injection he with e1 e2 e3
  exact ⟨h1, h2, h3, by rw [e1]; exact hr⟩
theorem RawOwn.setT {w : World} {base : Nat} {x : S58} {y : ByteArray × (Option Addr × Nat × Nat)} (h : RawOwn w base x y) {g t : Nat} {cells : Array Value} (hb : w.heap[g]? = some (.cells cells t (0, 0))) (ht : ∀ q, q ∈ 62 :: k62.E → q ≠ t) (j : Nat) (u : Value) : RawOwn (w.setCell ⟨g, j, none⟩ u) base x y :=
  ⟨h.1, h.2.1, h.2.2.1, Kd.R_set h.2.2.2 hb ht j u⟩
theorem RawBlk.far {w : World} {g : Nat} {rl : List (ByteArray × (Option Addr × Nat × Nat))} (h : RawBlk w g rl) {q : Nat} (hne : g ≠ q) (j : Nat) (u : Value) : RawBlk (w.setCell ⟨q, j, none⟩ u) g rl := h.keep (Below.heap_setCell w ⟨q, j, none⟩ u g hne)
def PoolsOwn (w : World) (base : Nat) (A : Option Addr) (c : Nat) (l : List S58) : Prop :=
  l.length ≤ c ∧ l.length ≤ 9223372036854775807 ∧ (l = [] ∨ ∃ (bg : Nat) (rl : List (ByteArray × (Option Addr × Nat × Nat))), A = some ⟨bg, 0, none⟩ ∧ base ≤ bg ∧ rl.length = l.length ∧ RawBlk w bg rl ∧ ∀ (j : Nat) (x : S58) (y : (ByteArray × (Option Addr × Nat × Nat))), l[j]? = some x → rl[j]? = some y → RawOwn w base x y)
theorem PoolsOwn.C {w : World} {base : Nat} {A : Option Addr} {c : Nat} {l : List S58} (h : PoolsOwn w base A c l) : Kd.C k58 w A l.length l := by
  obtain ⟨_, hm, rfl | ⟨bg, rl, rfl, _, hl, hb, ho⟩⟩ := h
  · exact ⟨rfl, by simp, fun h => absurd h (Nat.lt_irrefl 0)⟩
  exact raw_row hl (hb.row zO) (fun j x y hx hy => (ho j x y hx hy).of)
theorem PoolsOwn.below {w w1 : World} {base : Nat} {A : Option Addr} {c : Nat} {l : List S58} (h : PoolsOwn w base A c l) (hw : Below w.heap.size w w1) : PoolsOwn w1 base A c l := by
  obtain ⟨h1, h2, h3 | ⟨bg, rl, h4, h5, h6, h7, h8⟩⟩ := h
  · exact ⟨h1, h2, .inl h3⟩
  exact ⟨h1, h2, .inr ⟨bg, rl, h4, h5, h6, h7.below hw, fun j x y hx hy => (h8 j x y hx hy).below hw⟩⟩
theorem PoolsOwn.setT {w : World} {base : Nat} {A : Option Addr} {c : Nat} {l : List S58} (h : PoolsOwn w base A c l) {g t : Nat} {cells : Array Value} (hb : w.heap[g]? = some (.cells cells t (0, 0))) (ht : ∀ q, q ∈ 62 :: k62.E → q ≠ t) (ht2 : 58 ≠ t) (j : Nat) (u : Value) : PoolsOwn (w.setCell ⟨g, j, none⟩ u) base A c l := by
  obtain ⟨h1, h2, h3 | ⟨bg, rl, h4, h5, h6, h7, h8⟩⟩ := h
  · exact ⟨h1, h2, .inl h3⟩
  have hne : bg ≠ g := by
    obtain ⟨cur, hc, _⟩ := h7;exact blk_ne hc hb ht2
  exact ⟨h1, h2, .inr ⟨bg, rl, h4, h5, h6, h7.far hne j u, fun j' x y hx hy => (h8 j' x y hx hy).setT hb ht j u⟩⟩
theorem PoolsOwn.lower {w : World} {base base' : Nat} {A : Option Addr} {c : Nat} {l : List S58} (h : PoolsOwn w base A c l) (hb : base' ≤ base) : PoolsOwn w base' A c l := by
  obtain ⟨h1, h2, h3 | ⟨bg, rl, h4, h5, h6, h7, h8⟩⟩ := h
  · exact ⟨h1, h2, .inl h3⟩
  exact ⟨h1, h2, .inr ⟨bg, rl, h4, Nat.le_trans hb h5, h6, h7, fun j x y hx hy => ⟨(h8 j x y hx hy).1, (h8 j x y hx hy).2.1, (h8 j x y hx hy).2.2.1, Kd.R_lower (h8 j x y hx hy).2.2.2 hb⟩⟩⟩
noncomputable def copied_T1 : Bool × List (List Nat × List Nat) := rtab .any (opsOf Tryz.f17 1)
theorem copied_tab1 : rtab .any (opsOf Tryz.f17 1) = copied_T1 := rfl
noncomputable def copied_T5 : Bool × List (List Nat × List Nat) := rtab .any (opsOf Tryz.f17 5)
theorem copied_tab5 : rtab .any (opsOf Tryz.f17 5) = copied_T5 := rfl
set_option maxHeartbeats 4000000 in
set_option maxRecDepth 100000 in
theorem copied_ok (a : Int) (A1 : Option Addr) (c1 : Nat) (l1 : List S54) (A2 : Option Addr) (c2 : Nat) (l2 : List S58) (w : World) (hr1 : Kd.C k54 w A1 l1.length l1) (hc1 : l1.length ≤ c1) (hr2 : Kd.C k58 w A2 l2.length l2) (hc2 : l2.length ≤ c2)
    (hl1 : l1.length ≤ 2000) (hl2 : l2.length ≤ 2000) (hl3 : ∀ x, x ∈ l2 → x.f1.length ≤ 2000) :
    Calls Tryz.prog 17 #[.agg #[.int .i64 a, .slice A1 l1.length c1, .slice A2 l2.length c2]] w fun e w' => ∃ B1 d1 B2 d2, e = .returned (.agg #[.int .i64 a, .slice B1 l1.length d1, .slice B2 l2.length d2]) ∧
      Kd.R k54 54 w' w.heap.size (fun _ => True) (.slice B1 l1.length d1) l1 ∧ l1.length ≤ d1 ∧ PoolsOwn w' w.heap.size B2 d2 l2 ∧ Below w.heap.size w w' := by
  have HB := zN (Below.refl w.heap.size w);have hu55 := Tryz.underlying44;have HR1 := zN hr1;have HR2 := zN hr2;clear hr1 hr2;obtain ⟨rl, hrl, hrc, hraw⟩ := raw_of HR2.out;have HRL := zN hrc;have HRAW := zN hraw;clear hrc hraw;have HLEN := zN hrl;clear hrl;go_enter Tryz.func17, Tryz.ntmps17;go_wp2_with (first | ((with_reducible refine gate_dst (N := 1) rfl ?_); refine zX #[.int .i64 a, .slice A1 l1.length c1, .slice A2 l2.length c2] 44 rfl ?_; intro g1 hg w1 hbox hb; have n0_ := zN (below_step HB.out hb); have BK1 := zN hbox; have GE1 := zN (Nat.le_of_eq hg.symm); clear HB; have HB := n0_; clear hb hbox hg n0_) | ((with_reducible refine gate_dst (N := 2) rfl ?_); refine zX #[.int .i64 0, .slice none 0 0, .slice none 0 0] 44 rfl ?_; intro g2 hg w2 hbox hb; have n0_ := zN (below_step HB.out hb); have n1_ := zN (blk_below BK1.out hb); have BK2 := zN hbox; have GE2 := zN (by rw [hg]; exact (below_size HB.out) : w.heap.size ≤ g2); have NE := zN (by have := blk_lt BK1.out; omega : g1 ≠ g2); clear HB BK1; have HB := n0_; have BK1 := n1_; clear hb hbox hg n0_ n1_));refine start_ (n := 10) (S := fun w' => w'.cell? ⟨g1, 0, none⟩ = some (.int .i64 a) ∧ w'.cell? ⟨g1, 1, none⟩ = some (.slice A1 l1.length c1) ∧ w'.cell? ⟨g1, 2, none⟩ = some (.slice A2 l2.length c2)) (ds := [7, 9]) #[false, false, false, false, false, false, false, false, false, false] zQ rfl rfl ⟨(blk_cell BK1.out 0).trans rfl, (blk_cell BK1.out 1).trans rfl, (blk_cell BK1.out 2).trans rfl⟩ (fun hHeld => ?_);refine with_tab (T := copied_T1) copied_tab1 (fun HT_ => ?_);replace BK1 := zN (blk_drew BK1.out);replace BK2 := zN (blk_drew BK2.out);replace HB := zN (below_drew1 HB.out);generalize w2.drew = w3 at BK1 BK2 HB hHeld ⊢;refine zU (i := 0) (N := some 4) #[true, false, false, false, false, false, false, false, false, false] rfl rfl HT_ ?_;refine zU (i := 3) (N := some 7) #[true, false, false, true, false, false, false, false, false, false] rfl rfl HT_ ?_;refine take_ (i := 1) (N := some 5) (v := ?_) (a' := ?_) #[true, true, false, true, false, false, false, false, false, false] rfl rfl (take_of HT_.out zQ) (fun _ _ _ h => h) (Or.inl ⟨by rfl, ?_⟩) hHeld ?_ ?_;rotate_left
  · rintro w' ⟨s0, s1, s2⟩;go_simp
    with_reducible rfl
  rotate_left
  · simp only [zP];rfl
  refine take_ (i := 4) (N := some 8) (v := ?_) (a' := ?_) #[true, true, false, true, true, false, false, false, false, false] rfl rfl (take_of HT_.out zQ) (fun _ _ _ h => h) (Or.inl ⟨by rfl, ?_⟩) hHeld ?_ ?_;rotate_left
  · rintro w' ⟨s0, s1, s2⟩;go_simp
    with_reducible rfl
  rotate_left
  · simp only [zP];rfl
  refine one_ (i := 2) (N := some 6) #[true, true, true, true, true, false, false, false, false, false] rfl rfl (one_of HT_.out zQ) (by decide) (fun K hK => ?_);refine goes_ Tryz.func40 zQ rfl #[.slice A1 l1.length c1] (by rfl) rfl rfl (by (try simp only [List.map_toArray, List.map_cons, List.map_nil]); first | done | rfl) ?_;refine (clone_Route A1 c1 l1 w3 (Kd.C_below HR1.out HB.out) hc1 hl1).mono ?_;rintro e w4 ⟨v1, rfl, ho, hb⟩;obtain ⟨B1, d1, rfl, hd1, _⟩ := Kd.R_reads ho;have HD1 := zN hd1;clear hd1;refine ⟨_, rfl, ?_⟩;have HO1 := zN (Kd.R_lower ho (below_size HB.out));replace BK1 := zN (blk_below BK1.out hb);replace BK2 := zN (blk_below BK2.out hb);replace HB := zN (below_step HB.out hb);clear ho hb;refine hK.out _ _ ⟨(blk_cell BK1.out 0).trans rfl, (blk_cell BK1.out 1).trans rfl, (blk_cell BK1.out 2).trans rfl⟩ (fun hHeld => ?_);clear hK K;refine norm_ (a' := ?_) ?_ ?_;rotate_left
  · show Act.put _ (some 6) _ = _
    simp only [zP];rfl
  refine zU (i := 6) (N := some 10) #[true, true, true, true, true, false, true, false, false, false] rfl rfl HT_ ?_;refine one_ (i := 5) (N := some 9) #[true, true, true, true, true, true, true, false, false, false] rfl rfl (one_of HT_.out zQ) (by decide) (fun K hK => ?_);refine goes_ Tryz.func41 zQ rfl #[.slice A2 l2.length c2] (by rfl) rfl rfl (by (try simp only [List.map_toArray, List.map_cons, List.map_nil]); first | done | rfl) ?_;have h_ := clone_Pool A2 c2 rl w4 (Kd.C_below HRL.out HB.out) (by rw [HLEN.out]; exact hc2) (by rw [HLEN.out]; exact hl2);rw [HLEN.out] at h_;refine (h_).mono ?_;rintro e w5 ⟨v2, rfl, ho, hb⟩;obtain ⟨B2, d2, rfl, hd2, _⟩ := Kd.R_reads ho;have HD2 := zN hd2;clear hd2;refine ⟨_, rfl, ?_⟩;have HO2 := zN (Kd.R_lower ho (below_size HB.out));replace BK1 := zN (blk_below BK1.out hb);replace BK2 := zN (blk_below BK2.out hb);replace HB := zN (below_step HB.out hb);replace HO1 := zN (Kd.R_below HO1.out hb);clear ho hb;refine hK.out _ _ ⟨(blk_cell BK1.out 0).trans rfl, (blk_cell BK1.out 1).trans rfl, (blk_cell BK1.out 2).trans rfl⟩ (fun hHeld => ?_);clear hK K;refine norm_ (a' := ?_) ?_ ?_;rotate_left
  · show Act.put _ (some 9) _ = _
    simp only [zP];rfl
  refine last_ (i := 7) (N := none) #[true, true, true, true, true, true, true, true, false, false] rfl rfl (one_of HT_.out zQ) (by decide) (fun K hK => ?_);have hs_ := (blk_cell BK1.out 1).trans (show _ = some (.slice A1 l1.length c1) from rfl);have hf_ := blk_frozen BK1.out 1;refine skip_ (w1 := ?_) (by rfl) rfl ?_ ?_;rotate_left
  · go_simp;rfl
  refine hK.out _ _ ?_;clear hK K hs_ hf_;replace BK2 := zN (blk_far BK2.out (p := ⟨g1, 1, none⟩) NE.out.symm (.slice B1 l1.length d1));replace HB := zN (below_set (j := 1) (v := (.slice B1 l1.length d1)) HB.out GE1.out);replace HO1 := zN (Kd.R_set HO1.out BK1.out (by decide) 1 (.slice B1 l1.length d1));replace HO2 := zN (Kd.R_set HO2.out BK1.out (by decide) 1 (.slice B1 l1.length d1));replace BK1 := zN (blk_put (cs' := #[.int .i64 a, .slice B1 l1.length d1, .slice A2 l2.length c2]) BK1.out 1 (.slice B1 l1.length d1) rfl);refine zU (i := 8) (N := some 11) #[true, true, true, true, true, true, true, true, true, false] rfl rfl HT_ ?_;refine last_ (i := 9) (N := none) #[true, true, true, true, true, true, true, true, true, true] rfl rfl (one_of HT_.out zQ) (by decide) (fun K hK => ?_);have hs_ := (blk_cell BK1.out 2).trans (show _ = some (.slice A2 l2.length c2) from rfl);have hf_ := blk_frozen BK1.out 2;refine skip_ (w1 := ?_) (by rfl) rfl ?_ ?_;rotate_left
  · go_simp;rfl
  refine hK.out _ _ ?_;clear hK K hs_ hf_;replace BK2 := zN (blk_far BK2.out (p := ⟨g1, 2, none⟩) NE.out.symm (.slice B2 rl.length d2));replace HB := zN (below_set (j := 2) (v := (.slice B2 rl.length d2)) HB.out GE1.out);replace HO1 := zN (Kd.R_set HO1.out BK1.out (by decide) 2 (.slice B2 rl.length d2));replace HO2 := zN (Kd.R_set HO2.out BK1.out (by decide) 2 (.slice B2 rl.length d2));replace BK1 := zN (blk_put (cs' := #[.int .i64 a, .slice B1 l1.length d1, .slice B2 rl.length d2]) BK1.out 2 (.slice B2 rl.length d2) rfl);refine done_ (done_of HT_.out zQ) ?_;generalize ((w5.setCell ⟨g1, 1, none⟩ (.slice B1 l1.length d1)).setCell ⟨g1, 2, none⟩ (.slice B2 rl.length d2)) = w6 at BK1 BK2 HB HO1 HO2 ⊢;obtain ⟨bg, hbg⟩ : ∃ bg, rl = [] ∨ (B2 = some ⟨bg, 0, none⟩ ∧ w.heap.size ≤ bg ∧ RawBlk w6 bg rl) := by
    rcases rawblk_of HO2.out with h | ⟨g, cap, he, hg, hb⟩
    · exact ⟨0, .inl h⟩
    injection he with e1 e2 e3
    exact ⟨g, .inr ⟨e1, hg, hb⟩⟩
  have HBG := zN hbg;clear hbg HO2 HRL;have q2 : w6.cell? ⟨g1, 2, none⟩ = some (.slice B2 rl.length d2) := (blk_cell BK1.out 2).trans rfl;go_wp2;clear q2;go_loopg [15] (rl.length + 1) (fun n v15 wr => ∃ (i : Nat) (rli : List (ByteArray × (Option Addr × Nat × Nat))), v15 = .int .i64 (i : Int) ∧ Aside0 (i + n = rl.length + 1 ∧ i ≤ rl.length) ∧ Aside0 (rli.length = rl.length) ∧ Aside0 (wr.heap[g1]? = some (.cells #[.int .i64 a, .slice B1 l1.length d1, .slice B2 rl.length d2] 44 (0, 0))) ∧ Aside0 (wr.heap[g2]? = some (.cells #[.int .i64 0, .slice none 0 0, .slice none 0 0] 44 (0, 0))) ∧ Aside0 (Kd.R k54 54 wr w.heap.size (fun _ => True) (.slice B1 l1.length d1) l1) ∧ Aside0 (rl = [] ∨ RawBlk wr bg rli) ∧ Aside0 (∀ (j : Nat) (x : S58) (y : (ByteArray × (Option Addr × Nat × Nat))), l2[j]? = some x → rli[j]? = some y → (j < i → RawOwn wr w.heap.size x y) ∧ (i ≤ j → rl[j]? = some y)) ∧ Aside0 (Below w.heap.size w wr))
  case atStart => exact ⟨0, rl, rfl, ⟨zO, zO⟩, ⟨rfl⟩, ⟨BK1.out⟩, ⟨BK2.out⟩, ⟨HO1.out⟩, ⟨HBG.out.imp id (fun h => h.2.2)⟩, ⟨fun j x y hx hy => ⟨fun h => absurd h (Nat.not_lt_zero _), fun _ => hy⟩⟩, ⟨HB.out⟩⟩
  case round =>
    clear BK1 BK2 HO1 HB;obtain ⟨i, rli, rfl, HN, HL, BK1, BK2, HO1, HRB, HINV, HB⟩ := hrel
    rcases Nat.lt_or_ge i rl.length with hi | hi
    rotate_left
    · have c1 : decide ((i : Int) < (rl.length : Int)) = false := zf zO;have hin : i = rl.length := by have := HN.out; omega
      have q0 : wr.cell? ⟨g1, 0, none⟩ = some (.int .i64 a) := (blk_cell BK1.out 0).trans rfl;have q1 : wr.cell? ⟨g1, 1, none⟩ = some (.slice B1 l1.length d1) := (blk_cell BK1.out 1).trans rfl;have q2 : wr.cell? ⟨g1, 2, none⟩ = some (.slice B2 rl.length d2) := (blk_cell BK1.out 2).trans rfl;have z0 : wr.cell? ⟨g2, 0, none⟩ = some (.int .i64 0) := (blk_cell BK2.out 0).trans rfl;have f0 := blk_frozen BK2.out 0;have z1 : wr.cell? ⟨g2, 1, none⟩ = some (.slice none 0 0) := (blk_cell BK2.out 1).trans rfl;have f1 := blk_frozen BK2.out 1;have z2 : wr.cell? ⟨g2, 2, none⟩ = some (.slice none 0 0) := (blk_cell BK2.out 2).trans rfl;have f2 := blk_frozen BK2.out 2;go_wp2;refine bodyPost_ret (results_single rfl (Vals.cell g2 44 #[.int .i64 a, .slice B1 l1.length d1, .slice B2 rl.length d2] (0, 0) _ rfl (blk_put (blk_put (blk_put BK2.out 0 _ rfl) 1 _ rfl) 2 _ rfl) Tryz.underlying44 rfl zQ Vals.nil)) rfl ?_;have b0 := BK2.out;have b1 := blk_put (cs' := #[.int .i64 a, .slice none 0 0, .slice none 0 0]) b0 0 (.int .i64 a) rfl;have b2 := blk_put (cs' := #[.int .i64 a, .slice B1 l1.length d1, .slice none 0 0]) b1 1 (.slice B1 l1.length d1) rfl;refine ⟨B1, d1, B2, d2, by rw [HLEN.out], Kd.R_set (Kd.R_set (Kd.R_set HO1.out b0 (by decide) 0 (.int .i64 a)) b1 (by decide) 1 (.slice B1 l1.length d1)) b2 (by decide) 2 (.slice B2 rl.length d2), HD1.out, ⟨by rw [← HLEN.out]; exact HD2.out, zO, ?_⟩, below_set (below_set (below_set HB.out GE2.out) GE2.out) GE2.out⟩;by_cases hne : rl = []
      · exact .inl (List.length_eq_zero_iff.1 (by rw [← HLEN.out, hne]; rfl))
      obtain ⟨hB, hbase, _⟩ := HBG.out.resolve_left hne;have hrb := HRB.out.resolve_left hne;obtain ⟨cur, hb0, _⟩ := id hrb;have hgn : bg ≠ g2 := blk_ne hb0 BK2.out (by decide);subst hB;exact .inr ⟨bg, rli, rfl, hbase, HL.out.trans HLEN.out, ((hrb.far hgn 0 _).far hgn 1 _).far hgn 2 _, fun j x y hx hy => ((((HINV.out j x y hx hy).1 (by have := (List.getElem?_eq_some_iff.1 hx).1; have := HLEN.out; omega)).setT b0 (by decide) 0 (.int .i64 a)).setT b1 (by decide) 1 (.slice B1 l1.length d1)).setT b2 (by decide) 2 (.slice (some ⟨bg, 0, none⟩) rl.length d2)⟩
    have c1 : decide ((i : Int) < (rl.length : Int)) = true := zt zO;have hne : rl ≠ [] := by rintro rfl; simp at hi
    obtain ⟨hB, hbase, _⟩ := HBG.out.resolve_left hne;have hrb := HRB.out.resolve_left hne;obtain ⟨x, hx⟩ : ∃ x, l2[i]? = some x := ⟨_, zr (by have := HLEN.out; omega)⟩;obtain ⟨⟨y1, yA, yn, yc⟩, hy⟩ : ∃ y, rli[i]? = some y := ⟨_, zr (by have := HL.out; omega)⟩;obtain ⟨h1, h2, h3, h4⟩ := HRAW.out i x _ hx ((HINV.out i x _ hx hy).2 (zh _));simp only at h1 h2 h3 h4;subst h1 h2;have q3 := (hrb.cell hy).1;simp only at q3;have q2 : wr.cell? ⟨g1, 2, none⟩ = some (.slice B2 rl.length d2) := (blk_cell BK1.out 2).trans rfl;have HX := zN hx;have HY := zN hy;have HR4 := zN h4;have H3 := zN h3;have HI := zN hi;have HBS := zN hbase;have HQ := zN hrb;have HX3 := zN (hl3 x (List.mem_of_getElem? hx));clear hx hy h4 h3 hbase hne hrb;subst hB;have hab : ∀ k : Nat, (Addr.add ⟨bg, 0, none⟩ k) = ⟨bg, k, none⟩ := fun k => by rw [add_plain]
    go_wp2;have hrb := HQ.out;refine start_ (n := 13) (S := fun w' => w'.cell? ⟨g1, 2, none⟩ = some (.slice (some ⟨bg, 0, none⟩) rl.length d2) ∧ w'.cell? ⟨bg, i * 2 + 1, none⟩ = some (.slice yA x.f1.length yc)) (ds := [12]) #[false, false, false, false, false, false, false, false, false, false, false, false, false] zQ rfl rfl ⟨(blk_cell BK1.out 2).trans rfl, (hrb.cell HY.out).1⟩ (fun hHeld => ?_);refine with_tab (T := copied_T5) copied_tab5 (fun HT_ => ?_);clear q2 q3 hrb;replace BK1 := zN (blk_drew BK1.out);replace BK2 := zN (blk_drew BK2.out);replace HB := zN (below_drew1 HB.out);replace HO1 := zN (Kd.R_drew HO1.out);replace HQ : Aside0 (RawBlk wr.drew bg rli) := ⟨HQ.out⟩;replace HINV : Aside0 (∀ (j : Nat) (x : S58) (y : (ByteArray × (Option Addr × Nat × Nat))), l2[j]? = some x → rli[j]? = some y → (j < i → RawOwn wr.drew w.heap.size x y) ∧ (i ≤ j → rl[j]? = some y)) := ⟨HINV.out⟩;clear HRB;generalize wr.drew = wq at BK1 BK2 HB HO1 HQ HINV hHeld ⊢;refine zU (i := 0) (N := some 18) #[true, false, false, false, false, false, false, false, false, false, false, false, false] rfl rfl HT_ ?_;refine take_ (i := 1) (N := some 19) (v := ?_) (a' := ?_) #[true, true, false, false, false, false, false, false, false, false, false, false, false] rfl rfl (take_of HT_.out zQ) (fun _ _ _ h => h) (Or.inl ⟨by rfl, ?_⟩) hHeld ?_ ?_;rotate_left
    · rintro w' ⟨s0, s1⟩;go_simp
      with_reducible rfl
    rotate_left
    · simp only [zP];rfl
    refine zU (i := 2) (N := some 20) #[true, true, true, false, false, false, false, false, false, false, false, false, false] rfl rfl HT_ ?_;refine zU (i := 3) (N := some 21) #[true, true, true, true, false, false, false, false, false, false, false, false, false] rfl rfl HT_ ?_;refine take_ (i := 4) (N := some 22) (v := ?_) (a' := ?_) #[true, true, true, true, true, false, false, false, false, false, false, false, false] rfl rfl (take_of HT_.out zQ) (fun _ _ _ h => h) (Or.inl ⟨by rfl, ?_⟩) hHeld ?_ ?_;rotate_left
    · rintro w' ⟨s0, s1⟩;go_simp
      with_reducible rfl
    rotate_left
    · simp only [zP];rfl
    refine zU (i := 5) (N := some 23) #[true, true, true, true, true, true, false, false, false, false, false, false, false] rfl rfl HT_ ?_;refine zU (i := 6) (N := some 24) #[true, true, true, true, true, true, true, false, false, false, false, false, false] rfl rfl HT_ ?_;refine zU (i := 7) (N := some 25) #[true, true, true, true, true, true, true, true, false, false, false, false, false] rfl rfl HT_ ?_;refine take_ (i := 8) (N := some 26) (v := ?_) (a' := ?_) #[true, true, true, true, true, true, true, true, true, false, false, false, false] rfl rfl (take_of HT_.out zQ) (fun _ _ _ h => h) (Or.inl ⟨by rfl, ?_⟩) hHeld ?_ ?_;rotate_left
    · rintro w' ⟨s0, s1⟩;go_simp
      with_reducible rfl
    rotate_left
    · simp only [zP];rfl
    refine one_ (i := 9) (N := some 27) #[true, true, true, true, true, true, true, true, true, true, false, false, false] rfl rfl (one_of HT_.out zQ) (by decide) (fun K hK => ?_);refine goes_ Tryz.func20 zQ rfl #[.slice yA x.f1.length yc] (by rfl) rfl rfl (by (try simp only [List.map_toArray, List.map_cons, List.map_nil]); first | done | rfl) ?_;refine (clone_Target yA yc x.f1 wq (Kd.C_below HR4.out HB.out) H3.out HX3.out).mono ?_;rintro e wv ⟨v3, rfl, ho, hb⟩;obtain ⟨TA, tc, rfl, htc, _⟩ := Kd.R_reads ho;have HTC := zN htc;clear htc;refine ⟨_, rfl, ?_⟩;have HO3 := zN (Kd.R_lower ho (below_size HB.out));replace BK1 := zN (blk_below BK1.out hb);replace BK2 := zN (blk_below BK2.out hb);replace HB := zN (below_step HB.out hb);replace HO1 := zN (Kd.R_below HO1.out hb);replace HQ := zN (HQ.out.below hb);replace HINV : Aside0 (∀ (j : Nat) (x : S58) (y : (ByteArray × (Option Addr × Nat × Nat))), l2[j]? = some x → rli[j]? = some y → (j < i → RawOwn wv w.heap.size x y) ∧ (i ≤ j → rl[j]? = some y)) := ⟨fun j x y hx hy => ⟨fun h => ((HINV.out j x y hx hy).1 h).below hb, (HINV.out j x y hx hy).2⟩⟩;clear ho hb;refine hK.out _ _ ⟨(blk_cell BK1.out 2).trans rfl, (HQ.out.cell HY.out).1⟩ (fun hHeld => ?_);clear hK K;refine norm_ (a' := ?_) ?_ ?_;rotate_left
    · show Act.put _ (some 27) _ = _
      simp only [zP];rfl
    refine zU (i := 10) (N := some 28) #[true, true, true, true, true, true, true, true, true, true, true, false, false] rfl rfl HT_ ?_;refine zU (i := 11) (N := some 29) #[true, true, true, true, true, true, true, true, true, true, true, true, false] rfl rfl HT_ ?_;refine last_ (i := 12) (N := none) #[true, true, true, true, true, true, true, true, true, true, true, true, true] rfl rfl (one_of HT_.out zQ) (by decide) (fun K hK => ?_);have hs_ := (HQ.out.cell HY.out).1;have hf_ := (HQ.out.cell HY.out).2;simp only at hs_;refine skip_ (w1 := ?_) (by rfl) rfl ?_ ?_;rotate_left
    · go_simp;rfl
    refine hK.out _ _ ?_;clear hK K hs_ hf_ hHeld;refine done_ (done_of HT_.out zQ) ?_;obtain ⟨cur, hb0, hcur⟩ := id HQ.out;clear hcur;have HB0 := zN hb0;clear hb0;have HINV2 : Aside0 (∀ (j : Nat) (x' : S58) (y' : (ByteArray × (Option Addr × Nat × Nat))), l2[j]? = some x' → (rli.set i (x.f0, (TA, x.f1.length, tc)))[j]? = some y' → (j < i + 1 → RawOwn (wv.setCell ⟨bg, i * 2 + 1, none⟩ (.slice TA x.f1.length tc)) w.heap.size x' y') ∧ (i + 1 ≤ j → rl[j]? = some y')) := ⟨by
      intro j x' y' hx' hy';have hil : i < rli.length := by have := HL.out; have := HI.out; omega
      rw [List.getElem?_set] at hy';by_cases hij : i = j
      · subst hij;rw [zp rfl, zp hil] at hy';obtain rfl := zo hy';obtain rfl : x = x' := zo (HX.out.symm.trans hx');exact ⟨fun _ => ⟨rfl, rfl, HTC.out, Kd.R_set HO3.out HB0.out (by decide) _ _⟩, fun h => absurd h zO⟩
      rw [zn hij] at hy';exact ⟨fun h => ((HINV.out j x' y' hx' hy').1 zO).set HQ.out _ _, fun h => (HINV.out j x' y' hx' hy').2 zO⟩⟩
    have HBK1 := zN (blk_far BK1.out (p := ⟨bg, i * 2 + 1, none⟩) (blk_ne BK1.out HB0.out (by decide)) (.slice TA x.f1.length tc));have HBK2 := zN (blk_far BK2.out (p := ⟨bg, i * 2 + 1, none⟩) (blk_ne BK2.out HB0.out (by decide)) (.slice TA x.f1.length tc));have HO12 := zN (Kd.R_set HO1.out HB0.out (by decide) (i * 2 + 1) (.slice TA x.f1.length tc));have HQ2 := zN (HQ.out.set i HY.out TA x.f1.length tc);have HBB := zN (below_set (j := i * 2 + 1) (v := .slice TA x.f1.length tc) HB.out HBS.out);clear BK1 BK2 HO1 HQ HB HINV HB0 HO3;generalize (wv.setCell ⟨bg, i * 2 + 1, none⟩ (.slice TA x.f1.length tc)) = wz at HBK1 HBK2 HO12 HQ2 HBB HINV2 ⊢;have hi9 : i < 2000 := by have := HI.out; have := HLEN.out; omega
    go_wp2;go_roundg (rl.length - i)
    case measure => have := HN.out; have := HI.out; omega
    case rel => exact ⟨i + 1, rli.set i (x.f0, (TA, x.f1.length, tc)), zI, ⟨by have := HN.out; have := HI.out; omega⟩, ⟨by rw [List.length_set]; exact HL.out⟩, ⟨HBK1.out⟩, ⟨HBK2.out⟩, ⟨HO12.out⟩, ⟨.inr HQ2.out⟩, ⟨HINV2.out⟩, ⟨HBB.out⟩⟩
def PlaneOwn (W : World) (base g : Nat) (f0 : Int) (f1 : List S54) (f2 : List S58) : Prop :=
  ∃ A1 c1 A2 c2, W.heap[g]? = some (.cells #[.int .i64 f0, .slice A1 f1.length c1, .slice A2 f2.length c2] 70 (0, 0)) ∧ Kd.R k54 54 W base (fun _ => True) (.slice A1 f1.length c1) f1 ∧ f1.length ≤ c1 ∧ PoolsOwn W base A2 c2 f2
theorem PlaneOwn.at_ {W : World} {base g : Nat} {f0 : Int} {f1 : List S54} {f2 : List S58} (h : PlaneOwn W base g f0 f1 f2) : PlaneAt W g f0 f1 f2 := by
  obtain ⟨A1, c1, A2, c2, h0, h1, h2, h3⟩ := h;obtain ⟨A, c, he, _, hr⟩ := Kd.R_reads h1;injection he with e1 e2 e3
  subst e1;exact ⟨A1, c1, A2, c2, h0, hr, h2, h3.C, h3.1⟩
theorem PlaneOwn.below {W W1 : World} {base g : Nat} {f0 : Int} {f1 : List S54} {f2 : List S58} (h : PlaneOwn W base g f0 f1 f2) (hb : Below W.heap.size W W1) : PlaneOwn W1 base g f0 f1 f2 := by
  obtain ⟨A1, c1, A2, c2, h0, h1, h2, h3⟩ := h;exact ⟨A1, c1, A2, c2, blk_below h0 hb, Kd.R_below h1 hb, h2, h3.below hb⟩
theorem PlaneOwn.far {W : World} {base g : Nat} {f0 : Int} {f1 : List S54} {f2 : List S58} (h : PlaneOwn W base g f0 f1 f2) {g' : Nat} {cells : Array Value} (hb : W.heap[g']? = some (.cells cells 70 (0, 0))) (hne : g ≠ g') (j : Nat) (u : Value) : PlaneOwn (W.setCell ⟨g', j, none⟩ u) base g f0 f1 f2 := by
  obtain ⟨A1, c1, A2, c2, h0, h1, h2, h3⟩ := h;exact ⟨A1, c1, A2, c2, blk_far h0 (p := ⟨g', j, none⟩) hne u, Kd.R_set h1 hb (by decide) j u, h2, h3.setT hb (by decide) (by decide) j u⟩
set_option maxHeartbeats 2000000 in
set_option maxRecDepth 100000 in
theorem apply_ok {g : Nat} {f0 : Int} {f1 : List S54} {f2 : List S58} {w : World} (h : PlaneAt w g f0 f1 f2) (a : Int) (A1 : Option Addr) (c1 : Nat) (l1 : List S54) (A2 : Option Addr) (c2 : Nat) (l2 : List S58) (hr1 : Kd.C k54 w A1 l1.length l1) (hc1 : l1.length ≤ c1) (hr2 : Kd.C k58 w A2 l2.length l2) (hc2 : l2.length ≤ c2)
    (hl1 : l1.length ≤ 2000) (hl2 : l2.length ≤ 2000) (hl3 : ∀ x, x ∈ l2 → x.f1.length ≤ 2000) (ha : f0 < a) :
    Calls Tryz.prog 8 #[.pointer (some ⟨g, 0, none⟩), .agg #[.int .i64 a, .slice A1 l1.length c1, .slice A2 l2.length c2]] w fun e w' => e = .returned (.int .i64 0) ∧ PlaneOwn w' w.heap.size g a l1 l2 ∧ (∀ n, n ≤ g → n ≤ w.heap.size → Below n w w') ∧ (∀ k, k < w.heap.size → k ≠ g → w'.heap[k]? = w.heap[k]?) ∧ (∀ base g' h0 h1 h2, g' ≠ g → PlaneOwn w base g' h0 h1 h2 → PlaneOwn w' base g' h0 h1 h2) := by
  obtain ⟨A1', c1', A2', c2', h0, _, _, _, _⟩ := h;have HB := zN (Below.refl w.heap.size w);have H0 := zN h0;have HR1 := zN hr1;have HR2 := zN hr2;have HL3 := zN hl3;have hu97 := Tryz.underlying70;have hu55 := Tryz.underlying44;clear h0 hr1 hr2 hl3;go_enter Tryz.func8, Tryz.ntmps8;go_wp2_with (first | ((with_reducible refine gate_dst (N := 3) rfl ?_); refine zX #[.int .i64 a, .slice A1 l1.length c1, .slice A2 l2.length c2] 44 rfl ?_; intro gb hg w1 hbox hb; have n0_ := zN (below_step HB.out hb); have n1_ := zN (blk_below H0.out hb); have q0 := cellS70_0 (blk_below H0.out hb); have p0 : w1.cell? ⟨gb, 0, none⟩ = some (.int .i64 a) := (blk_cell hbox 0).trans rfl; have p1 : w1.cell? ⟨gb, 1, none⟩ = some (.slice A1 l1.length c1) := (blk_cell hbox 1).trans rfl; have p2 : w1.cell? ⟨gb, 2, none⟩ = some (.slice A2 l2.length c2) := (blk_cell hbox 2).trans rfl; clear HB; have HB := n0_; have H1 := n1_; clear hb hbox hg n0_ n1_));go_still (by rfl);go_wp2_with fail;refine (copied_ok a A1 c1 l1 A2 c2 l2 _ (Kd.C_below HR1.out (below_drew1 HB.out)) hc1 (Kd.C_below HR2.out (below_drew1 HB.out)) hc2 hl1 hl2 HL3.out).mono ?_;rintro e w3 ⟨B1, d1, B2, d2, rfl, ho1, hd1, ho2, hb⟩;have HO1 := zN (Kd.R_lower ho1 (below_size (below_drew1 HB.out)));have HBK := zN (blk_below (blk_drew H1.out) hb);have HO2 := zN (ho2.lower (below_size (below_drew1 HB.out)));have HBB := zN (below_step (below_drew1 HB.out) hb);have HD1 := zN hd1;clear ho1 ho2 hd1 hb q0 p0 p1 p2;have z0 : w3.cell? ⟨g, 0, none⟩ = some (.int .i64 f0) := (blk_cell HBK.out 0).trans rfl;have z1 : w3.cell? ⟨g, 1, none⟩ = some (.slice A1' f1.length c1') := (blk_cell HBK.out 1).trans rfl;have z2 : w3.cell? ⟨g, 2, none⟩ = some (.slice A2' f2.length c2') := (blk_cell HBK.out 2).trans rfl;have y0 := blk_frozen HBK.out 0;have y1 := blk_frozen HBK.out 1;have y2 := blk_frozen HBK.out 2;go_wp2;go_ret;have b0 := HBK.out;have b1 := blk_put (cs' := #[.int .i64 a, .slice A1' f1.length c1', .slice A2' f2.length c2']) b0 0 (.int .i64 a) rfl;have b2 := blk_put (cs' := #[.int .i64 a, .slice B1 l1.length d1, .slice A2' f2.length c2']) b1 1 (.slice B1 l1.length d1) rfl;have b3 := blk_put (cs' := #[.int .i64 a, .slice B1 l1.length d1, .slice B2 l2.length d2]) b2 2 (.slice B2 l2.length d2) rfl;refine ⟨rfl, ⟨B1, d1, B2, d2, b3, Kd.R_set (Kd.R_set (Kd.R_set HO1.out b0 (by decide) 0 _) b1 (by decide) 1 _) b2 (by decide) 2 _, HD1.out, ((HO2.out.setT b0 (by decide) (by decide) 0 _).setT b1 (by decide) (by decide) 1 _).setT b2 (by decide) (by decide) 2 _⟩, fun n h1 h2 => (((HBB.out.mono h2).setCell h1 _).setCell h1 _).setCell h1 _, fun k hk hne => ?_, fun base g' h0 h1 h2 hne hp => (((hp.below HBB.out).far b0 hne 0 _).far b1 hne 1 _).far b2 hne 2 _⟩
  rw [Below.heap_setCell _ _ _ k hne, Below.heap_setCell _ _ _ k hne, Below.heap_setCell _ _ _ k hne];exact HBB.out.block k hk
set_option maxHeartbeats 2000000 in
set_option maxRecDepth 100000 in
theorem match_ok (nm pool : ByteArray) (A : Option Addr) (n c ga gc : Nat) (w : World) (h1 : w.cell? ⟨gc, 0, none⟩ = some (.pointer (some ⟨ga, 0, none⟩))) (h2 : w.cell? ⟨ga, 10, none⟩ = some (.string pool)) (hc : gc < w.heap.size) (ha : ga < w.heap.size) :
    Calls Tryz.prog 59 #[.agg #[.string nm, .slice A n c], .pointer (some ⟨gc, 0, none⟩)] w fun e w' => e = .returned (.bool (nm.toList == pool.toList)) ∧ Below w.heap.size w w' := by
  have HB := zN (Below.refl w.heap.size w);go_enter Tryz.func59, Tryz.ntmps59;go_wp2_with (first | ((with_reducible refine gate_dst (N := 2) rfl ?_); refine zX #[.string nm, .slice A n c] 58 rfl ?_; intro gb hg w1 hbox hb; have n0_ := zN (below_step HB.out hb); have q1 := (hb.cell (p := ⟨gc, 0, none⟩) hc).trans h1; have q2 := (hb.cell (p := ⟨ga, 10, none⟩) ha).trans h2; have p0 : w1.cell? ⟨gb, 0, none⟩ = some (.string nm) := (blk_cell hbox 0).trans rfl; clear HB; have HB := n0_; clear hb hbox hg n0_));go_still (by rfl);go_wp2

  go_ret;exact ⟨rfl, below_drew1 HB.out⟩
def idxP (pool : ByteArray) : List S58 → Int → Int
  | [], _ => -1
  | x :: l, i => if x.f0.toList == pool.toList then i else idxP pool l (i + 1)
theorem idx_rd (l : List S58) (i : Nat) (hi : i < l.length) : l[i]? = some (rd_T58 l (i : Int)) := by
  unfold rd_T58;simp [List.getD_eq_getElem?_getD, zr hi]
set_option maxHeartbeats 4000000 in
set_option maxRecDepth 100000 in
theorem index_ok (pool : ByteArray) (A : Option Addr) (c ga gc : Nat) (l : List S58) (w : World) (hr : Kd.C k58 w A l.length l) (hc : l.length ≤ c) (hl : l.length ≤ 2000) (h1 : w.cell? ⟨gc, 0, none⟩ = some (.pointer (some ⟨ga, 0, none⟩))) (h2 : w.cell? ⟨ga, 10, none⟩ = some (.string pool)) (hgc : gc < w.heap.size) (hga : ga < w.heap.size) :
    Calls Tryz.prog 58 #[.slice A l.length c, .func (.func 59) #[] #[.pointer (some ⟨gc, 0, none⟩)]] w fun e w' => e = .returned (.int .i64 (idxP pool l 0)) ∧ Below w.heap.size w w' := by
  have HB := zN (Below.refl w.heap.size w);have HR := zN hr;clear hr;go_enter Tryz.func58, Tryz.ntmps58;go_wp2;go_loopg [8] (l.length + 1) (fun n v8 wr => ∃ i : Nat, v8 = .int .i64 (i : Int) ∧ Aside0 (i + n = l.length + 1 ∧ i ≤ l.length) ∧ Aside0 (idxP pool (l.drop i) i = idxP pool l 0) ∧ Aside0 (Below w.heap.size w wr))
  case atStart => exact ⟨0, rfl, ⟨zO, zO⟩, ⟨rfl⟩, ⟨HB.out⟩⟩
  case round =>
    clear HB;obtain ⟨i, rfl, HN, HI, HB⟩ := hrel
    rcases Nat.lt_or_ge i l.length with hi | hi
    rotate_left
    · have c1 : decide ((i : Int) < (l.length : Int)) = false := zf zO;have hI := HI.out;rw [List.drop_of_length_le hi] at hI;simp only [idxP] at hI;have HQ := zN hI;clear hI;go_wp2;go_ret;exact ⟨by rw [← HQ.out]; rfl, HB.out⟩
    have c1 : decide ((i : Int) < (l.length : Int)) = true := zt zO;obtain ⟨ad, A1, cc, rfl, x0, x1, _, _⟩ := at_T58 (Kd.C_below HR.out HB.out) i zO zO;simp only [Int.toNat_natCast] at x0 x1;have HX := zN (show l[i]? = some (rd_T58 l (i : Int)) from idx_rd l i hi);go_wp2_with fail;refine (match_ok _ pool _ _ _ ga gc wr ((HB.out.cell (p := ⟨gc, 0, none⟩) hgc).trans h1) ((HB.out.cell (p := ⟨ga, 10, none⟩) hga).trans h2) (Nat.lt_of_lt_of_le hgc HB.out.size) (Nat.lt_of_lt_of_le hga HB.out.size)).mono ?_;rintro e w4 ⟨rfl, hb⟩;replace HB := zN (below_step HB.out hb);clear hb x0 x1;have hdr : l.drop i = rd_T58 l (i : Int) :: l.drop (i + 1) := by
      rw [List.drop_eq_getElem_cons hi];have h_ := HX.out;rw [zr hi] at h_;rw [zo h_]
    have hI := HI.out;rw [hdr] at hI;simp only [idxP] at hI;by_cases hq : (rd_T58 l (i : Int)).f0.toList == pool.toList
    · rw [zp hq] at hI;have HQ := zN hI;rw [hq];clear hI hdr;go_wp2;go_ret;exact ⟨by rw [← HQ.out]; rfl, HB.out⟩
    rw [zn hq] at hI;have HQ := zN hI;rw [Bool.not_eq_true] at hq;rw [hq];clear hI hdr;have hi9 : i < 2000 := by omega
    go_wp2;go_roundg (l.length - i)
    case measure => have := HN.out; omega
    case rel => exact ⟨i + 1, zI, ⟨by have := HN.out; omega⟩, ⟨HQ.out⟩, ⟨HB.out⟩⟩
def askedCells (g : Nat) (b : Value) (draw : Nat) (m p q h : ByteArray) (fs : Value) (st ver : Int) (pool addr : ByteArray) : Array Value :=
  #[.pointer (some ⟨g, 0, none⟩), b, .float .f64 draw, .string m, .string p, .string q, .string h, fs, .int .i64 st, .int .i64 ver, .string pool, .string addr]
def AskedAt (W : World) (ga g : Nat) (b : Value) (draw : Nat) (m p q h : ByteArray) (fs : Value) (st ver : Int) (pool addr : ByteArray) : Prop :=
  W.heap[ga]? = some (.cells (askedCells g b draw m p q h fs st ver pool addr) 95 (0, 0))
def Only (ga : Nat) (w w' : World) : Prop := w.heap.size ≤ w'.heap.size ∧ ∀ k, k < w.heap.size → k ≠ ga → w'.heap[k]? = w.heap[k]?
theorem Only.refl (ga : Nat) (w : World) : Only ga w w := ⟨zh _, fun _ _ _ => rfl⟩
theorem Only.below {ga : Nat} {w w1 w2 : World} (h : Only ga w w1) (hb : Below w1.heap.size w1 w2) : Only ga w w2 :=
  ⟨Nat.le_trans h.1 hb.size, fun k hk hn => (hb.block k (Nat.lt_of_lt_of_le hk h.1)).trans (h.2 k hk hn)⟩
theorem Only.trans {ga : Nat} {w w1 w2 : World} (h : Only ga w w1) (h2 : Only ga w1 w2) : Only ga w w2 :=
  ⟨Nat.le_trans h.1 h2.1, fun k hk hn => (h2.2 k (Nat.lt_of_lt_of_le hk h.1) hn).trans (h.2 k hk hn)⟩
theorem Only.set {ga : Nat} {w w1 : World} (h : Only ga w w1) (j : Nat) (v : Value) : Only ga w (w1.setCell ⟨ga, j, none⟩ v) :=
  ⟨Nat.le_trans h.1 ((Below.refl 0 w1).setCell (p := ⟨ga, j, none⟩) (Nat.zero_le _) v).size, fun k hk hn => (Below.heap_setCell w1 ⟨ga, j, none⟩ v k hn).trans (h.2 k hk hn)⟩
theorem Only.setNew {ga : Nat} {w w1 : World} (h : Only ga w w1) {gr : Nat} (hg : w.heap.size ≤ gr) (j : Nat) (v : Value) : Only ga w (w1.setCell ⟨gr, j, none⟩ v) :=
  ⟨Nat.le_trans h.1 ((Below.refl 0 w1).setCell (p := ⟨gr, j, none⟩) (Nat.zero_le _) v).size, fun k hk hn => (Below.heap_setCell w1 ⟨gr, j, none⟩ v k (Nat.ne_of_lt (Nat.lt_of_lt_of_le hk hg))).trans (h.2 k hk hn)⟩
theorem Only.drew {ga : Nat} {w w1 : World} (h : Only ga w w1) : Only ga w w1.drew := h
set_option maxHeartbeats 4000000 in
set_option maxRecDepth 100000 in
theorem take_none {g : Nat} {f0 : Int} {f1 : List S54} {f2 : List S58} {w0 w : World} (hp : PlaneAt w0 g f0 f1 f2) (hB : Below w0.heap.size w0 w) {ga : Nat} (hga : w0.heap.size ≤ ga) {b : Value} {draw : Nat} {m p q h : ByteArray} {fs : Value} {st ver : Int} {pool addr : ByteArray}
    (hA : AskedAt w ga g b draw m p q h fs st ver pool addr) (hl2 : f2.length ≤ 2000) (hi : idxP pool f2 0 = -1) :
    Calls Tryz.prog 30 #[.pointer (some ⟨ga, 0, none⟩)] w fun e w' => e = .returned (.bool false) ∧ AskedAt w' ga g b draw m p q h fs 503 ver pool addr ∧ Below w0.heap.size w0 w' ∧ Only ga w w' := by
  obtain ⟨A1, c1, A2, c2, h0, _, _, hr2, hc2⟩ := hp;have HB := zN (Below.refl w.heap.size w);have HB0 := zN hB;have H0 := zN h0;have HA := zN hA;have HR2 := zN hr2;clear h0 hr2 hA hB;have hmf : ∀ (fn : Fn) (first cap : Array Value) (w : World), (Instr.makeFunc fn first cap).run Tryz.prog w = .ok (.func fn first cap) w := fun _ _ _ _ => rfl
  go_enter Tryz.func30, Tryz.ntmps30;go_wp2_with (first | ((with_reducible refine gate_dst (N := 1) rfl ?_); refine zX #[.pointer (some ⟨ga, 0, none⟩)] 92 rfl ?_; intro gc hg w1 hbox hb; have n0_ := zN (below_step HB.out hb); have HC := zN hbox; have HA1 := zN (blk_below HA.out hb); have k0 : w1.cell? ⟨gc, 0, none⟩ = some (.pointer (some ⟨ga, 0, none⟩)) := (blk_cell hbox 0).trans rfl; have k1 : w1.cell? ⟨ga, 8, none⟩ = some (.int .i64 st) := (blk_cell (blk_below HA.out hb) 8).trans rfl; have k2 := blk_frozen (blk_below HA.out hb) 8; have k3 : w1.cell? ⟨ga, 0, none⟩ = some (.pointer (some ⟨g, 0, none⟩)) := (blk_cell (blk_below HA.out hb) 0).trans rfl; have k4 : w1.cell? ⟨g, 2, none⟩ = some (.slice A2 f2.length c2) := (blk_cell (blk_below (blk_below H0.out HB0.out) hb) 2).trans rfl; have hn1 : gc ≠ ga := Nat.ne_of_gt (by rw [hg]; exact blk_lt HA.out); have hn2 : g ≠ ga := Nat.ne_of_lt (Nat.lt_of_lt_of_le (blk_lt H0.out) hga); clear HB; have HB := n0_; clear hb hbox hg n0_) | fail);have HA2 := zN (blk_put (cs' := askedCells g b draw m p q h fs 503 ver pool addr) HA1.out 8 (.int .i64 503) rfl);have HC2 := zN (blk_far HC.out (p := ⟨ga, 8, none⟩) hn1 (.int .i64 503));have HB2 := zN ((below_step HB0.out HB.out).setCell (show w0.heap.size ≤ (⟨ga, 8, none⟩ : Addr).block from hga) (.int .i64 503));have HO2 := zN (((Only.refl ga w).below HB.out).set 8 (.int .i64 503));clear k0 k1 k2 k3 k4 HB HC HA1 HA HB0 hn1 hn2;generalize w1.setCell ⟨ga, 8, none⟩ (.int .i64 503) = w2 at HA2 HC2 HB2 HO2 ⊢;refine (index_ok pool A2 c2 ga gc f2 w2 (Kd.C_below HR2.out HB2.out) hc2 hl2 ((blk_cell HC2.out 0).trans rfl) ((blk_cell HA2.out 10).trans rfl) (blk_lt HC2.out) (blk_lt HA2.out)).mono ?_;rintro e w4 ⟨rfl, hb⟩;have HA4 := zN (blk_below HA2.out hb);have HB4 := zN (below_step HB2.out hb);have HO4 := zN (HO2.out.below hb);clear hb HA2 HC2 HB2 HO2;rw [hi];go_wp2;go_ret;exact ⟨rfl, HA4.out, HB4.out, HO4.out⟩
noncomputable def route_T1 : Bool × List (List Nat × List Nat) := rtab .any (opsOf Tryz.f29 1)
theorem route_tab1 : rtab .any (opsOf Tryz.f29 1) = route_T1 := rfl
noncomputable def route_T2 : Bool × List (List Nat × List Nat) := rtab .any (opsOf Tryz.f29 2)
theorem route_tab2 : rtab .any (opsOf Tryz.f29 2) = route_T2 := rfl
set_option maxHeartbeats 4000000 in
set_option maxRecDepth 100000 in
theorem route_ok {g : Nat} {f0 : Int} {f1 : List S54} {f2 : List S58} {w0 w : World} (hp : PlaneAt w0 g f0 f1 f2) (hB : Below w0.heap.size w0 w) {ga : Nat} (hga : w0.heap.size ≤ ga) {b : Value} {draw : Nat} {m p q h : ByteArray} {fs : Value} {st ver : Int} {pool addr : ByteArray}
    (hA : AskedAt w ga g b draw m p q h fs st ver pool addr) (k : Nat) {r1 r2 r3 : ByteArray} {r4 : Bool} (hf : plane_Find.f k f0 f1 f2 h p = some (r1, r2, r3, r4)) :
    Calls Tryz.prog 29 #[.pointer (some ⟨ga, 0, none⟩)] w fun e w' => e = .returned (.bool r4) ∧ AskedAt w' ga g b draw m p q h fs 404 ver r3 addr ∧ Below w0.heap.size w0 w' ∧ Only ga w w' := by
  obtain ⟨A1, c1, A2, c2, h0, hr1, hc1, hr2, hc2⟩ := hp;have HB0 := zN hB;have H0 := zN h0;have HA := zN hA;have HR1 := zN hr1;have HR2 := zN hr2;have HO := zN (Only.refl ga w);have HF := zN hf;clear h0 hr1 hr2 hA hB hf;unfold AskedAt at HA;have hu102 := Tryz.underlying95;have hu55 := Tryz.underlying44;have hu93 := Tryz.underlying54;have hu62 := Tryz.underlying50;have hu25 := Tryz.underlying25;have hu97 := Tryz.underlying70;go_enter Tryz.func29, Tryz.ntmps29;go_wp2;refine start_ (n := 23) (S := fun w' => w'.cell? ⟨ga, 0, none⟩ = some (.pointer (some ⟨g, 0, none⟩)) ∧ w'.cell? ⟨g, 0, none⟩ = some (.int .i64 f0) ∧ w'.cell? ⟨g, 1, none⟩ = some (.slice A1 f1.length c1) ∧ w'.cell? ⟨g, 2, none⟩ = some (.slice A2 f2.length c2) ∧ w'.cell? ⟨ga, 6, none⟩ = some (.string h) ∧ w'.cell? ⟨ga, 4, none⟩ = some (.string p)) (ds := [21]) #[false, false, false, false, false, false, false, false, false, false, false, false, false, false, false, false, false, false, false, false, false, false, false] zQ rfl rfl ⟨(blk_cell HA.out 0).trans rfl, (blk_cell (blk_below H0.out HB0.out) 0).trans rfl, (blk_cell (blk_below H0.out HB0.out) 1).trans rfl, (blk_cell (blk_below H0.out HB0.out) 2).trans rfl, (blk_cell HA.out 6).trans rfl, (blk_cell HA.out 4).trans rfl⟩ (fun hHeld => ?_);refine with_tab (T := route_T1) route_tab1 (fun HT_ => ?_);have m0_ := zN (blk_drew HA.out);have m1_ := zN HO.out.drew;have m2_ := zN (below_drew1 HB0.out);clear HA HO HB0;have HA := m0_;have HO := m1_;have HB0 := m2_;clear m0_ m1_ m2_;generalize w.drew = w3 at HA HB0 HO hHeld ⊢;refine zU (i := 0) (N := some 6) #[true, false, false, false, false, false, false, false, false, false, false, false, false, false, false, false, false, false, false, false, false, false, false] rfl rfl HT_ ?_;refine zU (i := 1) (N := some 7) #[true, true, false, false, false, false, false, false, false, false, false, false, false, false, false, false, false, false, false, false, false, false, false] rfl rfl HT_ ?_;refine zU (i := 2) (N := some 8) #[true, true, true, false, false, false, false, false, false, false, false, false, false, false, false, false, false, false, false, false, false, false, false] rfl rfl HT_ ?_;refine take_ (i := 3) (N := some 9) (v := ?_) (a' := ?_) #[true, true, true, true, false, false, false, false, false, false, false, false, false, false, false, false, false, false, false, false, false, false, false] rfl rfl (take_of HT_.out zQ) (fun _ _ _ h => h) (Or.inl ⟨by rfl, ?_⟩) hHeld ?_ ?_;rotate_left
  · rintro w' ⟨s0, s1, s2, s3, s4, s5⟩;go_simp
    with_reducible rfl
  rotate_left
  · simp only [zP];rfl
  refine zU (i := 4) (N := some 10) #[true, true, true, true, true, false, false, false, false, false, false, false, false, false, false, false, false, false, false, false, false, false, false] rfl rfl HT_ ?_;refine take_ (i := 5) (N := some 11) (v := ?_) (a' := ?_) #[true, true, true, true, true, true, false, false, false, false, false, false, false, false, false, false, false, false, false, false, false, false, false] rfl rfl (take_of HT_.out zQ) (fun _ _ _ h => h) (Or.inl ⟨by rfl, ?_⟩) hHeld ?_ ?_;rotate_left
  · rintro w' ⟨s0, s1, s2, s3, s4, s5⟩;go_simp
    with_reducible rfl
  rotate_left
  · simp only [zP];rfl
  refine zU (i := 6) (N := some 12) #[true, true, true, true, true, true, true, false, false, false, false, false, false, false, false, false, false, false, false, false, false, false, false] rfl rfl HT_ ?_;refine zU (i := 7) (N := some 13) #[true, true, true, true, true, true, true, true, false, false, false, false, false, false, false, false, false, false, false, false, false, false, false] rfl rfl HT_ ?_;refine zU (i := 8) (N := some 14) #[true, true, true, true, true, true, true, true, true, false, false, false, false, false, false, false, false, false, false, false, false, false, false] rfl rfl HT_ ?_;refine zU (i := 9) (N := some 15) #[true, true, true, true, true, true, true, true, true, true, false, false, false, false, false, false, false, false, false, false, false, false, false] rfl rfl HT_ ?_;refine take_ (i := 10) (N := some 16) (v := ?_) (a' := ?_) #[true, true, true, true, true, true, true, true, true, true, true, false, false, false, false, false, false, false, false, false, false, false, false] rfl rfl (take_of HT_.out zQ) (fun _ _ _ h => h) (Or.inl ⟨by rfl, ?_⟩) hHeld ?_ ?_;rotate_left
  · rintro w' ⟨s0, s1, s2, s3, s4, s5⟩;go_simp
    with_reducible rfl
  rotate_left
  · simp only [zP];rfl
  refine zU (i := 11) (N := some 17) #[true, true, true, true, true, true, true, true, true, true, true, true, false, false, false, false, false, false, false, false, false, false, false] rfl rfl HT_ ?_;refine zU (i := 12) (N := some 18) #[true, true, true, true, true, true, true, true, true, true, true, true, true, false, false, false, false, false, false, false, false, false, false] rfl rfl HT_ ?_;refine zU (i := 13) (N := some 19) #[true, true, true, true, true, true, true, true, true, true, true, true, true, true, false, false, false, false, false, false, false, false, false] rfl rfl HT_ ?_;refine zU (i := 14) (N := some 20) #[true, true, true, true, true, true, true, true, true, true, true, true, true, true, true, false, false, false, false, false, false, false, false] rfl rfl HT_ ?_;refine take_ (i := 15) (N := some 21) (v := ?_) (a' := ?_) #[true, true, true, true, true, true, true, true, true, true, true, true, true, true, true, true, false, false, false, false, false, false, false] rfl rfl (take_of HT_.out zQ) (fun _ _ _ h => h) (Or.inl ⟨by rfl, ?_⟩) hHeld ?_ ?_;rotate_left
  · rintro w' ⟨s0, s1, s2, s3, s4, s5⟩;go_simp
    with_reducible rfl
  rotate_left
  · simp only [zP];rfl
  refine two_ (i := 16) (j := 20) (Ni := some 22) (Nj := some 3) #[true, true, true, true, true, true, true, true, true, true, true, true, true, true, true, true, true, false, false, false, false, false, false] #[true, true, true, true, true, true, true, true, true, true, true, true, true, true, true, true, false, false, false, false, true, false, false] rfl rfl rfl rfl (two_of HT_.out zQ) (by decide) (by decide) (fun K hK => ?_) (fun K hK => ?_)
  · skip
    refine goes_ Tryz.func13 zQ rfl #[.agg #[.int .i64 f0, .slice A1 f1.length c1, .slice A2 f2.length c2], .string h, .string p] (by rfl) rfl rfl (by (try simp only [List.map_toArray, List.map_cons, List.map_nil]); first | done | rfl) ?_;refine (plane_Find.calls k f0 A1 c1 f1 A2 c2 f2 h p r1 r2 r3 r4 w3 (Kd.C_below HR1.out HB0.out) hc1 (Kd.C_below HR2.out HB0.out) hc2 HF.out).mono ?_;rintro e w4 ⟨rfl, hb⟩;refine ⟨_, rfl, ?_⟩;have m0_ := zN (blk_below HA.out hb);have m1_ := zN (HO.out.below hb);have m2_ := zN (below_step HB0.out hb);clear HA HO HB0;have HA := m0_;have HO := m1_;have HB0 := m2_;clear m0_ m1_ m2_;clear hb;refine hK.out _ _ ⟨(blk_cell HA.out 0).trans rfl, (blk_cell (blk_below H0.out HB0.out) 0).trans rfl, (blk_cell (blk_below H0.out HB0.out) 1).trans rfl, (blk_cell (blk_below H0.out HB0.out) 2).trans rfl, (blk_cell HA.out 6).trans rfl, (blk_cell HA.out 4).trans rfl⟩ (fun hHeld => ?_);clear hK K;refine norm_ (a' := ?_) ?_ ?_;rotate_left
    · show Act.put _ (some 22) _ = _
      simp only [zP];rfl
    refine zU (i := 17) (N := some 5) #[true, true, true, true, true, true, true, true, true, true, true, true, true, true, true, true, true, true, false, false, false, false, false] rfl rfl HT_ ?_;refine zU (i := 18) (N := some 23) #[true, true, true, true, true, true, true, true, true, true, true, true, true, true, true, true, true, true, true, false, false, false, false] rfl rfl HT_ ?_;refine zU (i := 19) (N := some 24) #[true, true, true, true, true, true, true, true, true, true, true, true, true, true, true, true, true, true, true, true, false, false, false] rfl rfl HT_ ?_;refine one_ (i := 20) (N := some 3) #[true, true, true, true, true, true, true, true, true, true, true, true, true, true, true, true, true, true, true, true, true, false, false] rfl rfl (one_of HT_.out zQ) (by decide) (fun K hK => ?_);refine box_step ?hg (N := 3) ?hd (cs := #[.string ⟨#[]⟩, .string ⟨#[]⟩, .string ⟨#[]⟩]) (t := 54) ?hr ?_; (case hd => rfl); (case hg => rfl); (case hr => first | (go_simp; done) | (go_simp; rfl));intro gr hg w5 hbox hb;have NE := zN (by rw [hg]; exact Nat.ne_of_gt (blk_lt HA.out) : gr ≠ ga);have GW := zN (by rw [hg]; exact HO.out.1 : w.heap.size ≤ gr);have GR := zN (by rw [hg]; exact below_size HB0.out : w0.heap.size ≤ gr);have m0_ := zN (blk_below HA.out hb);have m1_ := zN (HO.out.below hb);have m2_ := zN hbox;have m3_ := zN (below_step HB0.out hb);clear HA HO HB0;have HA := m0_;have HO := m1_;have HR := m2_;have HB0 := m3_;clear m0_ m1_ m2_ m3_;clear hb hbox hg;refine hK.out _ _ ⟨(blk_cell HA.out 0).trans rfl, (blk_cell (blk_below H0.out HB0.out) 0).trans rfl, (blk_cell (blk_below H0.out HB0.out) 1).trans rfl, (blk_cell (blk_below H0.out HB0.out) 2).trans rfl, (blk_cell HA.out 6).trans rfl, (blk_cell HA.out 4).trans rfl⟩ (fun hHeld => ?_);clear hK K;refine norm_ (a' := ?_) ?_ ?_;rotate_left
    · show Act.put _ (some 3) _ = _
      simp only [zP];rfl
    refine last_ (i := 21) (N := none) #[true, true, true, true, true, true, true, true, true, true, true, true, true, true, true, true, true, true, true, true, true, true, false] rfl rfl (one_of HT_.out zQ) (by decide) (fun K hK => ?_);have z0 := (blk_cell HR.out 0).trans (show _ = some (.string ⟨#[]⟩) from rfl);have y0 := blk_frozen HR.out 0;have z1 := (blk_cell HR.out 1).trans (show _ = some (.string ⟨#[]⟩) from rfl);have y1 := blk_frozen HR.out 1;have z2 := (blk_cell HR.out 2).trans (show _ = some (.string ⟨#[]⟩) from rfl);have y2 := blk_frozen HR.out 2;refine skip_ (w1 := ?_) (by rfl) rfl ?_ ?_;rotate_left
    · go_simp;rfl
    refine hK.out _ _ ?_;clear hK K z0 z1 z2 y0 y1 y2;have m0_ := zN (blk_far (blk_far (blk_far HA.out (p := ⟨gr, 0, none⟩) NE.out.symm (.string r1)) (p := ⟨gr, 1, none⟩) NE.out.symm (.string r2)) (p := ⟨gr, 2, none⟩) NE.out.symm (.string r3));have m1_ := zN (blk_put (cs' := #[.string r1, .string r2, .string r3]) (blk_put (cs' := #[.string r1, .string r2, .string ⟨#[]⟩]) (blk_put (cs' := #[.string r1, .string ⟨#[]⟩, .string ⟨#[]⟩]) HR.out 0 (.string r1) rfl) 1 (.string r2) rfl) 2 (.string r3) rfl);have m2_ := zN (Below.setCell (Below.setCell (Below.setCell HB0.out (show w0.heap.size ≤ (⟨gr, 0, none⟩ : Addr).block from GR.out) (.string r1)) (show w0.heap.size ≤ (⟨gr, 1, none⟩ : Addr).block from GR.out) (.string r2)) (show w0.heap.size ≤ (⟨gr, 2, none⟩ : Addr).block from GR.out) (.string r3));have m3_ := zN (Only.setNew (Only.setNew (Only.setNew HO.out GW.out 0 (.string r1)) GW.out 1 (.string r2)) GW.out 2 (.string r3));clear HA HR HB0 HO;have HA := m0_;have HR := m1_;have HB0 := m2_;have HO := m3_;clear m0_ m1_ m2_ m3_;refine zU (i := 22) (N := some 4) #[true, true, true, true, true, true, true, true, true, true, true, true, true, true, true, true, true, true, true, true, true, true, true] rfl rfl HT_ ?_;refine done_ (done_of HT_.out zQ) ?_;clear HT_;generalize (((w5.setCell ⟨gr, 0, none⟩ (.string r1)).setCell ⟨gr, 1, none⟩ (.string r2)).setCell ⟨gr, 2, none⟩ (.string r3)) = w6 at HA HR HB0 HO ⊢;go_wp2;refine start_ (n := 12) (S := fun w' => w'.cell? ⟨gr, 2, none⟩ = some (.string r3)) (ds := [11]) #[false, false, false, false, false, false, false, false, false, false, false, false] zQ rfl rfl ((blk_cell HR.out 2).trans rfl) (fun hHeld => ?_);refine with_tab (T := route_T2) route_tab2 (fun HT_ => ?_);have m0_ := zN (blk_drew HA.out);have m1_ := zN (blk_drew HR.out);have m2_ := zN HO.out.drew;have m3_ := zN (below_drew1 HB0.out);clear HA HR HO HB0;have HA := m0_;have HR := m1_;have HO := m2_;have HB0 := m3_;clear m0_ m1_ m2_ m3_;generalize w6.drew = w7 at HA HR HB0 HO hHeld ⊢;refine zU (i := 0) (N := some 25) #[true, false, false, false, false, false, false, false, false, false, false, false] rfl rfl HT_ ?_;refine zU (i := 1) (N := some 26) #[true, true, false, false, false, false, false, false, false, false, false, false] rfl rfl HT_ ?_;refine zU (i := 2) (N := some 27) #[true, true, true, false, false, false, false, false, false, false, false, false] rfl rfl HT_ ?_;refine take_ (i := 3) (N := some 28) (v := ?_) (a' := ?_) #[true, true, true, true, false, false, false, false, false, false, false, false] rfl rfl (take_of HT_.out zQ) (fun _ _ _ h => h) (Or.inl ⟨by rfl, ?_⟩) hHeld ?_ ?_
    rotate_left
    · rintro w' s0;go_simp
      with_reducible rfl
    rotate_left
    · simp only [zP];rfl
    refine zU (i := 4) (N := some 29) #[true, true, true, true, true, false, false, false, false, false, false, false] rfl rfl HT_ ?_;refine zU (i := 5) (N := some 30) #[true, true, true, true, true, true, false, false, false, false, false, false] rfl rfl HT_ ?_;refine zU (i := 6) (N := some 31) #[true, true, true, true, true, true, true, false, false, false, false, false] rfl rfl HT_ ?_;refine one_ (i := 7) (N := none) #[true, true, true, true, true, true, true, true, false, false, false, false] rfl rfl (one_of HT_.out zQ) (by decide) (fun K hK => ?_);have hs_ := (blk_cell HA.out 8).trans (show _ = some (.int .i64 st) from rfl);have hf_ := blk_frozen HA.out 8;refine skip_ (w1 := ?_) (by rfl) rfl ?_ ?_;rotate_left
    · go_simp;rfl
    have m0_ := zN (blk_put (cs' := askedCells g b draw m p q h fs 404 ver pool addr) HA.out 8 (.int .i64 404) rfl);have m1_ := zN (blk_far HR.out (p := ⟨ga, 8, none⟩) NE.out (.int .i64 404));have m2_ := zN (HO.out.set 8 (.int .i64 404));have m3_ := zN (Below.setCell HB0.out (show w0.heap.size ≤ (⟨ga, 8, none⟩ : Addr).block from hga) (.int .i64 404));clear HA HR HO HB0;have HA := m0_;have HR := m1_;have HO := m2_;have HB0 := m3_;clear m0_ m1_ m2_ m3_;refine hK.out _ _ ((blk_cell HR.out 2).trans rfl) (fun hHeld => ?_);clear hK K hs_ hf_;generalize w7.setCell ⟨ga, 8, none⟩ (.int .i64 404) = w8 at HA HR HB0 HO hHeld ⊢;refine zU (i := 8) (N := some 32) #[true, true, true, true, true, true, true, true, true, false, false, false] rfl rfl HT_ ?_;refine zU (i := 9) (N := some 33) #[true, true, true, true, true, true, true, true, true, true, false, false] rfl rfl HT_ ?_;refine zU (i := 10) (N := some 34) #[true, true, true, true, true, true, true, true, true, true, true, false] rfl rfl HT_ ?_;refine last_ (i := 11) (N := none) #[true, true, true, true, true, true, true, true, true, true, true, true] rfl rfl (one_of HT_.out zQ) (by decide) (fun K hK => ?_);have hs_ := (blk_cell HA.out 10).trans (show _ = some (.string pool) from rfl);have hf_ := blk_frozen HA.out 10;refine skip_ (w1 := ?_) (by rfl) rfl ?_ ?_;rotate_left
    · go_simp;rfl
    have m0_ := zN (blk_put (cs' := askedCells g b draw m p q h fs 404 ver r3 addr) HA.out 10 (.string r3) rfl);have m1_ := zN (blk_far HR.out (p := ⟨ga, 10, none⟩) NE.out (.string r3));have m2_ := zN (HO.out.set 10 (.string r3));have m3_ := zN (Below.setCell HB0.out (show w0.heap.size ≤ (⟨ga, 10, none⟩ : Addr).block from hga) (.string r3));clear HA HR HO HB0;have HA := m0_;have HR := m1_;have HO := m2_;have HB0 := m3_;clear m0_ m1_ m2_ m3_;refine hK.out _ _ ?_;clear hK K hs_ hf_;generalize w8.setCell ⟨ga, 10, none⟩ (.string r3) = w9 at HA HR HB0 HO ⊢;refine done_ (done_of HT_.out zQ) ?_;clear HT_;go_wp2;go_ret;exact ⟨rfl, HA.out, HB0.out, HO.out⟩
  skip
  refine box_step ?hg (N := 3) ?hd (cs := #[.string ⟨#[]⟩, .string ⟨#[]⟩, .string ⟨#[]⟩]) (t := 54) ?hr ?_; (case hd => rfl); (case hg => rfl); (case hr => first | (go_simp; done) | (go_simp; rfl));intro gr hg w5 hbox hb;have NE := zN (by rw [hg]; exact Nat.ne_of_gt (blk_lt HA.out) : gr ≠ ga);have GW := zN (by rw [hg]; exact HO.out.1 : w.heap.size ≤ gr);have GR := zN (by rw [hg]; exact below_size HB0.out : w0.heap.size ≤ gr);have m0_ := zN (blk_below HA.out hb);have m1_ := zN (HO.out.below hb);have m2_ := zN hbox;have m3_ := zN (below_step HB0.out hb);clear HA HO HB0;have HA := m0_;have HO := m1_;have HR := m2_;have HB0 := m3_;clear m0_ m1_ m2_ m3_;clear hb hbox hg;refine hK.out _ _ ⟨(blk_cell HA.out 0).trans rfl, (blk_cell (blk_below H0.out HB0.out) 0).trans rfl, (blk_cell (blk_below H0.out HB0.out) 1).trans rfl, (blk_cell (blk_below H0.out HB0.out) 2).trans rfl, (blk_cell HA.out 6).trans rfl, (blk_cell HA.out 4).trans rfl⟩ (fun hHeld => ?_);clear hK K;refine norm_ (a' := ?_) ?_ ?_;rotate_left
  · show Act.put _ (some 3) _ = _
    simp only [zP];rfl
  refine one_ (i := 16) (N := some 22) #[true, true, true, true, true, true, true, true, true, true, true, true, true, true, true, true, true, false, false, false, true, false, false] rfl rfl (one_of HT_.out zQ) (by decide) (fun K hK => ?_);refine goes_ Tryz.func13 zQ rfl #[.agg #[.int .i64 f0, .slice A1 f1.length c1, .slice A2 f2.length c2], .string h, .string p] (by rfl) rfl rfl (by (try simp only [List.map_toArray, List.map_cons, List.map_nil]); first | done | rfl) ?_;refine (plane_Find.calls k f0 A1 c1 f1 A2 c2 f2 h p r1 r2 r3 r4 w5 (Kd.C_below HR1.out HB0.out) hc1 (Kd.C_below HR2.out HB0.out) hc2 HF.out).mono ?_;rintro e w4 ⟨rfl, hb⟩;refine ⟨_, rfl, ?_⟩;have m0_ := zN (blk_below HA.out hb);have m1_ := zN (HO.out.below hb);have m2_ := zN (blk_below HR.out hb);have m3_ := zN (below_step HB0.out hb);clear HA HO HR HB0;have HA := m0_;have HO := m1_;have HR := m2_;have HB0 := m3_;clear m0_ m1_ m2_ m3_;clear hb;refine hK.out _ _ ⟨(blk_cell HA.out 0).trans rfl, (blk_cell (blk_below H0.out HB0.out) 0).trans rfl, (blk_cell (blk_below H0.out HB0.out) 1).trans rfl, (blk_cell (blk_below H0.out HB0.out) 2).trans rfl, (blk_cell HA.out 6).trans rfl, (blk_cell HA.out 4).trans rfl⟩ (fun hHeld => ?_);clear hK K;refine norm_ (a' := ?_) ?_ ?_;rotate_left
  · show Act.put _ (some 22) _ = _
    simp only [zP];rfl
  refine zU (i := 17) (N := some 5) #[true, true, true, true, true, true, true, true, true, true, true, true, true, true, true, true, true, true, false, false, true, false, false] rfl rfl HT_ ?_;refine zU (i := 18) (N := some 23) #[true, true, true, true, true, true, true, true, true, true, true, true, true, true, true, true, true, true, true, false, true, false, false] rfl rfl HT_ ?_;refine zU (i := 19) (N := some 24) #[true, true, true, true, true, true, true, true, true, true, true, true, true, true, true, true, true, true, true, true, true, false, false] rfl rfl HT_ ?_;refine last_ (i := 21) (N := none) #[true, true, true, true, true, true, true, true, true, true, true, true, true, true, true, true, true, true, true, true, true, true, false] rfl rfl (one_of HT_.out zQ) (by decide) (fun K hK => ?_);have z0 := (blk_cell HR.out 0).trans (show _ = some (.string ⟨#[]⟩) from rfl);have y0 := blk_frozen HR.out 0;have z1 := (blk_cell HR.out 1).trans (show _ = some (.string ⟨#[]⟩) from rfl);have y1 := blk_frozen HR.out 1;have z2 := (blk_cell HR.out 2).trans (show _ = some (.string ⟨#[]⟩) from rfl);have y2 := blk_frozen HR.out 2;refine skip_ (w1 := ?_) (by rfl) rfl ?_ ?_;rotate_left
  · go_simp;rfl
  refine hK.out _ _ ?_;clear hK K z0 z1 z2 y0 y1 y2;have m0_ := zN (blk_far (blk_far (blk_far HA.out (p := ⟨gr, 0, none⟩) NE.out.symm (.string r1)) (p := ⟨gr, 1, none⟩) NE.out.symm (.string r2)) (p := ⟨gr, 2, none⟩) NE.out.symm (.string r3));have m1_ := zN (blk_put (cs' := #[.string r1, .string r2, .string r3]) (blk_put (cs' := #[.string r1, .string r2, .string ⟨#[]⟩]) (blk_put (cs' := #[.string r1, .string ⟨#[]⟩, .string ⟨#[]⟩]) HR.out 0 (.string r1) rfl) 1 (.string r2) rfl) 2 (.string r3) rfl);have m2_ := zN (Below.setCell (Below.setCell (Below.setCell HB0.out (show w0.heap.size ≤ (⟨gr, 0, none⟩ : Addr).block from GR.out) (.string r1)) (show w0.heap.size ≤ (⟨gr, 1, none⟩ : Addr).block from GR.out) (.string r2)) (show w0.heap.size ≤ (⟨gr, 2, none⟩ : Addr).block from GR.out) (.string r3));have m3_ := zN (Only.setNew (Only.setNew (Only.setNew HO.out GW.out 0 (.string r1)) GW.out 1 (.string r2)) GW.out 2 (.string r3));clear HA HR HB0 HO;have HA := m0_;have HR := m1_;have HB0 := m2_;have HO := m3_;clear m0_ m1_ m2_ m3_;refine zU (i := 22) (N := some 4) #[true, true, true, true, true, true, true, true, true, true, true, true, true, true, true, true, true, true, true, true, true, true, true] rfl rfl HT_ ?_;refine done_ (done_of HT_.out zQ) ?_;clear HT_;generalize (((w4.setCell ⟨gr, 0, none⟩ (.string r1)).setCell ⟨gr, 1, none⟩ (.string r2)).setCell ⟨gr, 2, none⟩ (.string r3)) = w6 at HA HR HB0 HO ⊢;go_wp2;refine start_ (n := 12) (S := fun w' => w'.cell? ⟨gr, 2, none⟩ = some (.string r3)) (ds := [11]) #[false, false, false, false, false, false, false, false, false, false, false, false] zQ rfl rfl ((blk_cell HR.out 2).trans rfl) (fun hHeld => ?_);refine with_tab (T := route_T2) route_tab2 (fun HT_ => ?_);have m0_ := zN (blk_drew HA.out);have m1_ := zN (blk_drew HR.out);have m2_ := zN HO.out.drew;have m3_ := zN (below_drew1 HB0.out);clear HA HR HO HB0;have HA := m0_;have HR := m1_;have HO := m2_;have HB0 := m3_;clear m0_ m1_ m2_ m3_;generalize w6.drew = w7 at HA HR HB0 HO hHeld ⊢;refine zU (i := 0) (N := some 25) #[true, false, false, false, false, false, false, false, false, false, false, false] rfl rfl HT_ ?_;refine zU (i := 1) (N := some 26) #[true, true, false, false, false, false, false, false, false, false, false, false] rfl rfl HT_ ?_;refine zU (i := 2) (N := some 27) #[true, true, true, false, false, false, false, false, false, false, false, false] rfl rfl HT_ ?_;refine take_ (i := 3) (N := some 28) (v := ?_) (a' := ?_) #[true, true, true, true, false, false, false, false, false, false, false, false] rfl rfl (take_of HT_.out zQ) (fun _ _ _ h => h) (Or.inl ⟨by rfl, ?_⟩) hHeld ?_ ?_
  rotate_left
  · rintro w' s0;go_simp
    with_reducible rfl
  rotate_left
  · simp only [zP];rfl
  refine zU (i := 4) (N := some 29) #[true, true, true, true, true, false, false, false, false, false, false, false] rfl rfl HT_ ?_;refine zU (i := 5) (N := some 30) #[true, true, true, true, true, true, false, false, false, false, false, false] rfl rfl HT_ ?_;refine zU (i := 6) (N := some 31) #[true, true, true, true, true, true, true, false, false, false, false, false] rfl rfl HT_ ?_;refine one_ (i := 7) (N := none) #[true, true, true, true, true, true, true, true, false, false, false, false] rfl rfl (one_of HT_.out zQ) (by decide) (fun K hK => ?_);have hs_ := (blk_cell HA.out 8).trans (show _ = some (.int .i64 st) from rfl);have hf_ := blk_frozen HA.out 8;refine skip_ (w1 := ?_) (by rfl) rfl ?_ ?_;rotate_left
  · go_simp;rfl
  have m0_ := zN (blk_put (cs' := askedCells g b draw m p q h fs 404 ver pool addr) HA.out 8 (.int .i64 404) rfl);have m1_ := zN (blk_far HR.out (p := ⟨ga, 8, none⟩) NE.out (.int .i64 404));have m2_ := zN (HO.out.set 8 (.int .i64 404));have m3_ := zN (Below.setCell HB0.out (show w0.heap.size ≤ (⟨ga, 8, none⟩ : Addr).block from hga) (.int .i64 404));clear HA HR HO HB0;have HA := m0_;have HR := m1_;have HO := m2_;have HB0 := m3_;clear m0_ m1_ m2_ m3_;refine hK.out _ _ ((blk_cell HR.out 2).trans rfl) (fun hHeld => ?_);clear hK K hs_ hf_;generalize w7.setCell ⟨ga, 8, none⟩ (.int .i64 404) = w8 at HA HR HB0 HO hHeld ⊢;refine zU (i := 8) (N := some 32) #[true, true, true, true, true, true, true, true, true, false, false, false] rfl rfl HT_ ?_;refine zU (i := 9) (N := some 33) #[true, true, true, true, true, true, true, true, true, true, false, false] rfl rfl HT_ ?_;refine zU (i := 10) (N := some 34) #[true, true, true, true, true, true, true, true, true, true, true, false] rfl rfl HT_ ?_;refine last_ (i := 11) (N := none) #[true, true, true, true, true, true, true, true, true, true, true, true] rfl rfl (one_of HT_.out zQ) (by decide) (fun K hK => ?_);have hs_ := (blk_cell HA.out 10).trans (show _ = some (.string pool) from rfl);have hf_ := blk_frozen HA.out 10;refine skip_ (w1 := ?_) (by rfl) rfl ?_ ?_;rotate_left
  · go_simp;rfl
  have m0_ := zN (blk_put (cs' := askedCells g b draw m p q h fs 404 ver r3 addr) HA.out 10 (.string r3) rfl);have m1_ := zN (blk_far HR.out (p := ⟨ga, 10, none⟩) NE.out (.string r3));have m2_ := zN (HO.out.set 10 (.string r3));have m3_ := zN (Below.setCell HB0.out (show w0.heap.size ≤ (⟨ga, 10, none⟩ : Addr).block from hga) (.string r3));clear HA HR HO HB0;have HA := m0_;have HR := m1_;have HO := m2_;have HB0 := m3_;clear m0_ m1_ m2_ m3_;refine hK.out _ _ ?_;clear hK K hs_ hf_;generalize w8.setCell ⟨ga, 10, none⟩ (.string r3) = w9 at HA HR HB0 HO ⊢;refine done_ (done_of HT_.out zQ) ?_;clear HT_;go_wp2;go_ret;exact ⟨rfl, HA.out, HB0.out, HO.out⟩
set_option maxHeartbeats 4000000 in
set_option maxRecDepth 100000 in
theorem take_nought {g : Nat} {f0 : Int} {f1 : List S54} {f2 : List S58} {w0 w : World} (hp : PlaneAt w0 g f0 f1 f2) (hB : Below w0.heap.size w0 w) {ga : Nat} (hga : w0.heap.size ≤ ga) {b : Value} {draw : Nat} {m p q h : ByteArray} {fs : Value} {st ver : Int} {pool addr : ByteArray}
    (hA : AskedAt w ga g b draw m p q h fs st ver pool addr) (hl2 : f2.length ≤ 2000) {i : Nat} (hi : idxP pool f2 0 = (i : Int)) (hin : i < f2.length) (k : Nat) {r1 : Int} (hw : plane_Weigh.f k (rd_T58 f2 (i : Int)).f1 draw = some (r1, false)) :
    Calls Tryz.prog 30 #[.pointer (some ⟨ga, 0, none⟩)] w fun e w' => e = .returned (.bool false) ∧ AskedAt w' ga g b draw m p q h fs 503 ver pool addr ∧ Below w0.heap.size w0 w' ∧ Only ga w w' := by
  obtain ⟨A1, c1, A2, c2, h0, _, _, hr2, hc2⟩ := hp;have HB := zN (Below.refl w.heap.size w);have HB0 := zN hB;have H0 := zN h0;have HA := zN hA;have HR2 := zN hr2;clear h0 hr2 hA hB;have hmf : ∀ (fn : Fn) (first cap : Array Value) (w : World), (Instr.makeFunc fn first cap).run Tryz.prog w = .ok (.func fn first cap) w := fun _ _ _ _ => rfl
  go_enter Tryz.func30, Tryz.ntmps30;go_wp2_with (first | ((with_reducible refine gate_dst (N := 1) rfl ?_); refine zX #[.pointer (some ⟨ga, 0, none⟩)] 92 rfl ?_; intro gc hg w1 hbox hb; have n0_ := zN (below_step HB.out hb); have HC := zN hbox; have HA1 := zN (blk_below HA.out hb); have k0 : w1.cell? ⟨gc, 0, none⟩ = some (.pointer (some ⟨ga, 0, none⟩)) := (blk_cell hbox 0).trans rfl; have k1 : w1.cell? ⟨ga, 8, none⟩ = some (.int .i64 st) := (blk_cell (blk_below HA.out hb) 8).trans rfl; have k2 := blk_frozen (blk_below HA.out hb) 8; have k3 : w1.cell? ⟨ga, 0, none⟩ = some (.pointer (some ⟨g, 0, none⟩)) := (blk_cell (blk_below HA.out hb) 0).trans rfl; have k4 : w1.cell? ⟨g, 2, none⟩ = some (.slice A2 f2.length c2) := (blk_cell (blk_below (blk_below H0.out HB0.out) hb) 2).trans rfl; have hn1 : gc ≠ ga := Nat.ne_of_gt (by rw [hg]; exact blk_lt HA.out); have hn2 : g ≠ ga := Nat.ne_of_lt (Nat.lt_of_lt_of_le (blk_lt H0.out) hga); clear HB; have HB := n0_; clear hb hbox hg n0_) | fail);have HA2 := zN (blk_put (cs' := askedCells g b draw m p q h fs 503 ver pool addr) HA1.out 8 (.int .i64 503) rfl);have HC2 := zN (blk_far HC.out (p := ⟨ga, 8, none⟩) hn1 (.int .i64 503));have HB2 := zN ((below_step HB0.out HB.out).setCell (show w0.heap.size ≤ (⟨ga, 8, none⟩ : Addr).block from hga) (.int .i64 503));have HO2 := zN (((Only.refl ga w).below HB.out).set 8 (.int .i64 503));clear k0 k1 k2 k3 k4 HB HC HA1 HA HB0 hn1 hn2;generalize w1.setCell ⟨ga, 8, none⟩ (.int .i64 503) = w2 at HA2 HC2 HB2 HO2 ⊢;refine (index_ok pool A2 c2 ga gc f2 w2 (Kd.C_below HR2.out HB2.out) hc2 hl2 ((blk_cell HC2.out 0).trans rfl) ((blk_cell HA2.out 10).trans rfl) (blk_lt HC2.out) (blk_lt HA2.out)).mono ?_;rintro e w4 ⟨rfl, hb⟩;have HA4 := zN (blk_below HA2.out hb);have HC4 := zN (blk_below HC2.out hb);have HB4 := zN (below_step HB2.out hb);have HO4 := zN (HO2.out.below hb);clear hb HA2 HC2 HB2 HO2;rw [hi];obtain ⟨ad, TA, tc, hA2, x0, x1, htc, hC⟩ := at_T58 (Kd.C_below HR2.out HB4.out) (i : Int) zO zO;have HCT := zN hC;have HTC := zN htc;have HW := zN hw;clear hC htc hw;subst hA2;simp only [Int.toNat_natCast] at x0 x1;have c1 : decide ((i : Int) < 0) = false := zf zO;have k0 : w4.cell? ⟨gc, 0, none⟩ = some (.pointer (some ⟨ga, 0, none⟩)) := (blk_cell HC4.out 0).trans rfl;have k3 : w4.cell? ⟨ga, 0, none⟩ = some (.pointer (some ⟨g, 0, none⟩)) := (blk_cell HA4.out 0).trans rfl;have k5 : w4.cell? ⟨ga, 2, none⟩ = some (.float .f64 draw) := (blk_cell HA4.out 2).trans rfl;have k4 : w4.cell? ⟨g, 2, none⟩ = some (.slice (some ad) f2.length c2) := (blk_cell (blk_below H0.out HB4.out) 2).trans rfl
  go_wp2_with fail;refine (plane_Weigh.calls k TA tc _ draw r1 false w4 HCT.out HTC.out HW.out).mono ?_;rintro e w5 ⟨rfl, hb⟩;have HA5 := zN (blk_below HA4.out hb);have HB5 := zN (below_step HB4.out hb);have HO5 := zN (HO4.out.below hb);clear hb;go_wp2;go_ret;exact ⟨rfl, HA5.out, HB5.out, HO5.out⟩
noncomputable def take_T8 : Bool × List (List Nat × List Nat) := rtab .any (opsOf Tryz.f30 8)
theorem take_tab8 : rtab .any (opsOf Tryz.f30 8) = take_T8 := rfl
set_option maxHeartbeats 4000000 in
set_option maxRecDepth 100000 in
theorem take_hit {g : Nat} {f0 : Int} {f1 : List S54} {f2 : List S58} {w0 w : World} (hp : PlaneAt w0 g f0 f1 f2) (hB : Below w0.heap.size w0 w) {ga : Nat} (hga : w0.heap.size ≤ ga) {b : Value} {draw : Nat} {m p q h : ByteArray} {fs : Value} {st ver : Int} {pool addr : ByteArray}
    (hA : AskedAt w ga g b draw m p q h fs st ver pool addr) (hl2 : f2.length ≤ 2000) {i : Nat} (hi : idxP pool f2 0 = (i : Int)) (hin : i < f2.length) (k : Nat) {r1 : Int} (hw : plane_Weigh.f k (rd_T58 f2 (i : Int)).f1 draw = some (r1, true)) (hr0 : 0 ≤ r1) (hr1 : r1 < (rd_T58 f2 (i : Int)).f1.length) :
    Calls Tryz.prog 30 #[.pointer (some ⟨ga, 0, none⟩)] w fun e w' => e = .returned (.bool false) ∧ AskedAt w' ga g b draw m p q h fs 200 ver pool (rd_T62 (rd_T58 f2 (i : Int)).f1 r1).f0 ∧ Below w0.heap.size w0 w' ∧ Only ga w w' := by
  obtain ⟨A1, c1, A2, c2, h0, _, _, hr2, hc2⟩ := hp;have HB := zN (Below.refl w.heap.size w);have HB0 := zN hB;have H0 := zN h0;have HA := zN hA;have HR2 := zN hr2;clear h0 hr2 hA hB;have hmf : ∀ (fn : Fn) (first cap : Array Value) (w : World), (Instr.makeFunc fn first cap).run Tryz.prog w = .ok (.func fn first cap) w := fun _ _ _ _ => rfl
  go_enter Tryz.func30, Tryz.ntmps30;go_wp2_with (first | ((with_reducible refine gate_dst (N := 1) rfl ?_); refine zX #[.pointer (some ⟨ga, 0, none⟩)] 92 rfl ?_; intro gc hg w1 hbox hb; have n0_ := zN (below_step HB.out hb); have HC := zN hbox; have HA1 := zN (blk_below HA.out hb); have k0 : w1.cell? ⟨gc, 0, none⟩ = some (.pointer (some ⟨ga, 0, none⟩)) := (blk_cell hbox 0).trans rfl; have k1 : w1.cell? ⟨ga, 8, none⟩ = some (.int .i64 st) := (blk_cell (blk_below HA.out hb) 8).trans rfl; have k2 := blk_frozen (blk_below HA.out hb) 8; have k3 : w1.cell? ⟨ga, 0, none⟩ = some (.pointer (some ⟨g, 0, none⟩)) := (blk_cell (blk_below HA.out hb) 0).trans rfl; have k4 : w1.cell? ⟨g, 2, none⟩ = some (.slice A2 f2.length c2) := (blk_cell (blk_below (blk_below H0.out HB0.out) hb) 2).trans rfl; have hn1 : gc ≠ ga := Nat.ne_of_gt (by rw [hg]; exact blk_lt HA.out); have hn2 : g ≠ ga := Nat.ne_of_lt (Nat.lt_of_lt_of_le (blk_lt H0.out) hga); clear HB; have HB := n0_; clear hb hbox hg n0_) | fail);have HA2 := zN (blk_put (cs' := askedCells g b draw m p q h fs 503 ver pool addr) HA1.out 8 (.int .i64 503) rfl);have HC2 := zN (blk_far HC.out (p := ⟨ga, 8, none⟩) hn1 (.int .i64 503));have HB2 := zN ((below_step HB0.out HB.out).setCell (show w0.heap.size ≤ (⟨ga, 8, none⟩ : Addr).block from hga) (.int .i64 503));have HO2 := zN (((Only.refl ga w).below HB.out).set 8 (.int .i64 503));clear k0 k1 k2 k3 k4 HB HC HA1 HA HB0 hn1 hn2;generalize w1.setCell ⟨ga, 8, none⟩ (.int .i64 503) = w2 at HA2 HC2 HB2 HO2 ⊢;refine (index_ok pool A2 c2 ga gc f2 w2 (Kd.C_below HR2.out HB2.out) hc2 hl2 ((blk_cell HC2.out 0).trans rfl) ((blk_cell HA2.out 10).trans rfl) (blk_lt HC2.out) (blk_lt HA2.out)).mono ?_;rintro e w4 ⟨rfl, hb⟩;have HA4 := zN (blk_below HA2.out hb);have HC4 := zN (blk_below HC2.out hb);have HB4 := zN (below_step HB2.out hb);have HO4 := zN (HO2.out.below hb);clear hb HA2 HC2 HB2 HO2;rw [hi];obtain ⟨ad, TA, tc, hA2, x0, x1, htc, hC⟩ := at_T58 HR2.out (i : Int) zO zO;obtain ⟨ta, hTA, y0, _⟩ := at_T62 hC r1 hr0 hr1;have hlt := zw w0 _ y0;have hnt : (ta.add (r1.toNat * 2)).block ≠ ga := Nat.ne_of_lt (Nat.lt_of_lt_of_le hlt hga);subst hTA;have Y0 := zN y0;have HNT := zN hnt;clear y0 hlt hnt;have HCT := zN (Kd.C_below hC HB4.out);have HTC := zN htc;have HW := zN hw;clear hC htc hw;replace x0 := pw_cell_below HB4.out x0;replace x1 := pw_cell_below HB4.out x1;subst hA2;simp only [Int.toNat_natCast] at x0 x1;have c1 : decide ((i : Int) < 0) = false := zf zO;have k0 : w4.cell? ⟨gc, 0, none⟩ = some (.pointer (some ⟨ga, 0, none⟩)) := (blk_cell HC4.out 0).trans rfl
  have k3 : w4.cell? ⟨ga, 0, none⟩ = some (.pointer (some ⟨g, 0, none⟩)) := (blk_cell HA4.out 0).trans rfl;have k5 : w4.cell? ⟨ga, 2, none⟩ = some (.float .f64 draw) := (blk_cell HA4.out 2).trans rfl;have k4 : w4.cell? ⟨g, 2, none⟩ = some (.slice (some ad) f2.length c2) := (blk_cell (blk_below H0.out HB4.out) 2).trans rfl;go_wp2_with fail;refine (plane_Weigh.calls k (some ta) tc _ draw r1 true w4 HCT.out HTC.out HW.out).mono ?_;rintro e w5 ⟨rfl, hb⟩;have HA5 := zN (blk_below HA4.out hb);have HB5 := zN (below_step HB4.out hb);have HO5 := zN (HO4.out.below hb);have HC5 := zN (blk_below HC4.out hb);clear hb x0 x1 k0 k3 k4 k5 c1;go_wp2;have NGC := zN (blk_ne HC5.out HA5.out (by decide));refine start_ (n := 15) (S := fun w' => w'.cell? ⟨gc, 0, none⟩ = some (.pointer (some ⟨ga, 0, none⟩)) ∧ w'.cell? (ta.add (r1.toNat * 2)) = some (.string (rd_T62 (rd_T58 f2 (i : Int)).f1 r1).f0)) (ds := [14]) #[false, false, false, false, false, false, false, false, false, false, false, false, false, false, false] zQ rfl rfl ⟨(blk_cell HC5.out 0).trans rfl, pw_cell_below HB5.out Y0.out⟩ (fun hHeld => ?_);refine with_tab (T := take_T8) take_tab8 (fun HT_ => ?_);replace HA5 := zN (blk_drew HA5.out);replace HC5 := zN (blk_drew HC5.out);replace HB5 := zN (below_drew1 HB5.out);replace HO5 := zN HO5.out.drew;generalize w5.drew = wq at HA5 HC5 HB5 HO5 hHeld ⊢;refine take_ (i := 0) (N := some 43) (v := ?_) (a' := ?_) #[true, false, false, false, false, false, false, false, false, false, false, false, false, false, false] rfl rfl (take_of HT_.out zQ) (fun _ _ _ h => h) (Or.inl ⟨by rfl, ?_⟩) hHeld ?_ ?_;rotate_left
  · rintro w' ⟨s0, s1⟩;go_simp
    with_reducible rfl
  rotate_left
  · simp only [zP];rfl
  refine take_ (i := 1) (N := some 44) (v := ?_) (a' := ?_) #[true, true, false, false, false, false, false, false, false, false, false, false, false, false, false] rfl rfl (take_of HT_.out zQ) (fun _ _ _ h => h) (Or.inl ⟨by rfl, ?_⟩) hHeld ?_ ?_;rotate_left
  · rintro w' ⟨s0, s1⟩;go_simp
    with_reducible rfl
  rotate_left
  · simp only [zP];rfl
  refine zU (i := 2) (N := some 45) #[true, true, true, false, false, false, false, false, false, false, false, false, false, false, false] rfl rfl HT_ ?_;refine zU (i := 3) (N := some 46) #[true, true, true, true, false, false, false, false, false, false, false, false, false, false, false] rfl rfl HT_ ?_;refine zU (i := 4) (N := some 47) #[true, true, true, true, true, false, false, false, false, false, false, false, false, false, false] rfl rfl HT_ ?_;refine zU (i := 5) (N := some 48) #[true, true, true, true, true, true, false, false, false, false, false, false, false, false, false] rfl rfl HT_ ?_;refine take_ (i := 6) (N := some 49) (v := ?_) (a' := ?_) #[true, true, true, true, true, true, true, false, false, false, false, false, false, false, false] rfl rfl (take_of HT_.out zQ) (fun _ _ _ h => h) (Or.inl ⟨by rfl, ?_⟩) hHeld ?_ ?_;rotate_left
  · rintro w' ⟨s0, s1⟩;go_simp
    with_reducible rfl
  rotate_left
  · simp only [zP];rfl
  refine zU (i := 7) (N := some 50) #[true, true, true, true, true, true, true, true, false, false, false, false, false, false, false] rfl rfl HT_ ?_;refine zU (i := 8) (N := some 51) #[true, true, true, true, true, true, true, true, true, false, false, false, false, false, false] rfl rfl HT_ ?_;refine zU (i := 9) (N := some 52) #[true, true, true, true, true, true, true, true, true, true, false, false, false, false, false] rfl rfl HT_ ?_;refine one_ (i := 10) (N := none) #[true, true, true, true, true, true, true, true, true, true, true, false, false, false, false] rfl rfl (one_of HT_.out zQ) (by decide) (fun K hK => ?_);have hs_ : wq.cell? ⟨ga, 8, none⟩ = some (.int .i64 503) := (blk_cell HA5.out 8).trans rfl;have hf_ := blk_frozen HA5.out 8;refine skip_ (w1 := ?_) (by rfl) rfl ?_ ?_;rotate_left
  · go_simp;rfl
  have hA_ := blk_put (cs' := askedCells g b draw m p q h fs 200 ver pool addr) HA5.out 8 (.int .i64 200) rfl;have hC_ := blk_far HC5.out (p := ⟨ga, 8, none⟩) NGC.out (.int .i64 200);have hY_ := (World.cell?_of_block (w := wq) (Below.heap_setCell wq ⟨ga, 8, none⟩ (.int .i64 200) (ta.add (r1.toNat * 2)).block HNT.out)).trans (pw_cell_below HB5.out Y0.out);refine hK.out _ _ ⟨(blk_cell hC_ 0).trans rfl, hY_⟩ (fun hHeld => ?_);clear hK K hs_ hf_;have HA6 := zN hA_;have HB6 := zN (HB5.out.setCell (show w0.heap.size ≤ (⟨ga, 8, none⟩ : Addr).block from hga) (.int .i64 200));have HO6 := zN (HO5.out.set 8 (.int .i64 200));clear hA_ hC_ hY_ HA5 HB5 HO5;generalize wq.setCell ⟨ga, 8, none⟩ (.int .i64 200) = wr at HA6 HB6 HO6 hHeld ⊢;refine zU (i := 11) (N := some 53) #[true, true, true, true, true, true, true, true, true, true, true, true, false, false, false] rfl rfl HT_ ?_;refine zU (i := 12) (N := some 54) #[true, true, true, true, true, true, true, true, true, true, true, true, true, false, false] rfl rfl HT_ ?_;refine zU (i := 13) (N := some 55) #[true, true, true, true, true, true, true, true, true, true, true, true, true, true, false] rfl rfl HT_ ?_;refine last_ (i := 14) (N := none) #[true, true, true, true, true, true, true, true, true, true, true, true, true, true, true] rfl rfl (one_of HT_.out zQ) (by decide) (fun K hK => ?_);have hs_ : wr.cell? ⟨ga, 11, none⟩ = some (.string addr) := (blk_cell HA6.out 11).trans rfl;have hf_ := blk_frozen HA6.out 11;refine skip_ (w1 := ?_) (by rfl) rfl ?_ ?_;rotate_left
  · go_simp;rfl
  refine hK.out _ _ ?_;clear hK K hs_ hf_ hHeld;refine done_ (done_of HT_.out zQ) ?_;go_wp2;go_ret;exact ⟨rfl, blk_put (cs' := askedCells g b draw m p q h fs 200 ver pool (rd_T62 (rd_T58 f2 (i : Int)).f1 r1).f0) HA6.out 11 (.string (rd_T62 (rd_T58 f2 (i : Int)).f1 r1).f0) rfl, HB6.out.setCell (show w0.heap.size ≤ (⟨ga, 11, none⟩ : Addr).block from hga) _, HO6.out.set 11 _⟩
set_option maxHeartbeats 4000000 in
set_option maxRecDepth 100000 in
theorem parse_ok {w0 w : World} (hB : Below w0.heap.size w0 w) {ga g : Nat} (hga : w0.heap.size ≤ ga) {bA : Option Addr} {bn bc : Nat} {draw : Nat} {m p q h : ByteArray} {fA : Option Addr} {fn fc : Nat} {st ver : Int} {pool addr : ByteArray}
    (hA : AskedAt w ga g (.slice bA bn bc) draw m p q h (.slice fA fn fc) st ver pool addr) {m' p' q' h' : ByteArray} {n er : Int}
    (hP : Calls Tryz.prog 57 #[.slice bA bn bc] w fun e w' => ∃ A4 n4 c4, e = .returned (.tuple #[.agg #[.string m', .string p', .string q', .string h', .slice A4 n4 c4], .int .i64 n, .int .i64 er]) ∧ Below w.heap.size w w') :
    Calls Tryz.prog 28 #[.pointer (some ⟨ga, 0, none⟩)] w fun e w' => ∃ A4 n4 c4, e = .returned (.bool (er == 0)) ∧ AskedAt w' ga g (.slice bA bn bc) draw m' p' q' h' (.slice A4 n4 c4) 400 ver pool addr ∧ Below w0.heap.size w0 w' ∧ Only ga w w' := by
  have HB0 := zN hB;have HA := zN hA;have HP := zN hP;have k1 : w.cell? ⟨ga, 1, none⟩ = some (.slice bA bn bc) := (blk_cell hA 1).trans rfl;clear hA hB hP;go_enter Tryz.func28, Tryz.ntmps28;go_wp2_with fail;refine HP.out.mono ?_;rintro e w2 ⟨A4, n4, c4, rfl, hb⟩;have HA2 := zN (blk_below HA.out hb);have HB2 := zN (below_step HB0.out hb);have HO2 := zN ((Only.refl ga w).below hb);clear hb k1 HA HB0 HP;go_wp2_with (first | ((with_reducible refine gate_dst (N := 3) rfl ?_); refine zX #[.string ⟨#[]⟩, .string ⟨#[]⟩, .string ⟨#[]⟩, .string ⟨#[]⟩, .slice none 0 0] 25 rfl ?_; intro gb hg w3 hbox hb; have HA3 := zN (blk_below HA2.out hb); have HB3 := zN (below_step HB2.out hb); have HO3 := zN (HO2.out.below hb); have HN := zN (by rw [hg]; exact HO2.out.1 : w.heap.size ≤ gb); have hne : gb ≠ ga := Nat.ne_of_gt (by rw [hg]; exact blk_lt HA2.out); have hne2 : ga ≠ gb := hne.symm; have z0 : w3.cell? ⟨gb, 0, none⟩ = some (.string ⟨#[]⟩) := (blk_cell hbox 0).trans rfl; have z1 : w3.cell? ⟨gb, 1, none⟩ = some (.string ⟨#[]⟩) := (blk_cell hbox 1).trans rfl; have z2 : w3.cell? ⟨gb, 2, none⟩ = some (.string ⟨#[]⟩) := (blk_cell hbox 2).trans rfl; have z3 : w3.cell? ⟨gb, 3, none⟩ = some (.string ⟨#[]⟩) := (blk_cell hbox 3).trans rfl; have z4 : w3.cell? ⟨gb, 4, none⟩ = some (.slice none 0 0) := (blk_cell hbox 4).trans rfl; have f0 := blk_frozen hbox 0; have f1 := blk_frozen hbox 1; have f2 := blk_frozen hbox 2; have f3 := blk_frozen hbox 3; have f4 := blk_frozen hbox 4; have y3 : w3.cell? ⟨ga, 3, none⟩ = some (.string m) := (blk_cell HA3.out 3).trans rfl; have y4 : w3.cell? ⟨ga, 4, none⟩ = some (.string p) := (blk_cell HA3.out 4).trans rfl; have y5 : w3.cell? ⟨ga, 5, none⟩ = some (.string q) := (blk_cell HA3.out 5).trans rfl; have y6 : w3.cell? ⟨ga, 6, none⟩ = some (.string h) := (blk_cell HA3.out 6).trans rfl; have y7 : w3.cell? ⟨ga, 7, none⟩ = some (.slice fA fn fc) := (blk_cell HA3.out 7).trans rfl; have y8 : w3.cell? ⟨ga, 8, none⟩ = some (.int .i64 st) := (blk_cell HA3.out 8).trans rfl; have x3 := blk_frozen HA3.out 3; have x4 := blk_frozen HA3.out 4; have x5 := blk_frozen HA3.out 5; have x6 := blk_frozen HA3.out 6; have x7 := blk_frozen HA3.out 7; have x8 := blk_frozen HA3.out 8; have HG := zN (by rw [hg]; exact (below_size HB2.out) : w0.heap.size ≤ gb); clear hb hbox hg));go_ret;refine ⟨A4, n4, c4, rfl, ?_, ?_, ?_⟩
  · have b0 := blk_far (blk_far (blk_far (blk_far (blk_far HA3.out (p := ⟨gb, 0, none⟩) hne2 (.string m')) (p := ⟨gb, 1, none⟩) hne2 (.string p')) (p := ⟨gb, 2, none⟩) hne2 (.string q')) (p := ⟨gb, 3, none⟩) hne2 (.string h')) (p := ⟨gb, 4, none⟩) hne2 (.slice A4 n4 c4);exact blk_put (blk_set (blk_set (blk_set (blk_set (blk_set b0 3 _) 4 _) 5 _) 6 _) 7 _) 8 _ rfl
  · exact below_set (below_set (below_set (below_set (below_set (below_set (below_set (below_set (below_set (below_set (below_set HB3.out HG.out) HG.out) HG.out) HG.out) HG.out) hga) hga) hga) hga) hga) hga
  exact (((((((((((HO3.out.setNew HN.out 0 _).setNew HN.out 1 _).setNew HN.out 2 _).setNew HN.out 3 _).setNew HN.out 4 _).set 3 _).set 4 _).set 5 _).set 6 _).set 7 _).set 8 _)
noncomputable def serve_T3 : Bool × List (List Nat × List Nat) := rtab .any (opsOf Tryz.f11 3)
theorem serve_tab3 : rtab .any (opsOf Tryz.f11 3) = serve_T3 := rfl
set_option maxHeartbeats 4000000 in
set_option maxRecDepth 100000 in
theorem serve_walk {g : Nat} {f0 : Int} {f1 : List S54} {f2 : List S58} {w : World} (hp : PlaneAt w g f0 f1 f2) (bA : Option Addr) (bn bc draw : Nat) (b1 b2 : Bool) (m p q h pool addr : ByteArray) (st : Int)
    (h1 : ∀ (ga : Nat) (w1 : World), w.heap.size ≤ ga → Below w.heap.size w w1 → AskedAt w1 ga g (.slice bA bn bc) draw ⟨#[]⟩ ⟨#[]⟩ ⟨#[]⟩ ⟨#[]⟩ (.slice none 0 0) 0 f0 ⟨#[]⟩ ⟨#[]⟩ → Calls Tryz.prog 28 #[.pointer (some ⟨ga, 0, none⟩)] w1 fun e w' => ∃ A4 n4 c4, e = .returned (.bool b1) ∧ AskedAt w' ga g (.slice bA bn bc) draw m p q h (.slice A4 n4 c4) 400 f0 ⟨#[]⟩ ⟨#[]⟩ ∧ Below w.heap.size w w' ∧ Only ga w1 w')
    (h2 : b1 = true → ∀ (ga : Nat) (w1 : World) (fs : Value), w.heap.size ≤ ga → Below w.heap.size w w1 → AskedAt w1 ga g (.slice bA bn bc) draw m p q h fs 400 f0 ⟨#[]⟩ ⟨#[]⟩ → Calls Tryz.prog 29 #[.pointer (some ⟨ga, 0, none⟩)] w1 fun e w' => e = .returned (.bool b2) ∧ AskedAt w' ga g (.slice bA bn bc) draw m p q h fs 404 f0 pool ⟨#[]⟩ ∧ Below w.heap.size w w' ∧ Only ga w1 w')
    (h3 : b1 = true → b2 = true → ∀ (ga : Nat) (w1 : World) (fs : Value), w.heap.size ≤ ga → Below w.heap.size w w1 → AskedAt w1 ga g (.slice bA bn bc) draw m p q h fs 404 f0 pool ⟨#[]⟩ → Calls Tryz.prog 30 #[.pointer (some ⟨ga, 0, none⟩)] w1 fun e w' => e = .returned (.bool false) ∧ AskedAt w' ga g (.slice bA bn bc) draw m p q h fs st f0 pool addr ∧ Below w.heap.size w w' ∧ Only ga w1 w') :
    Calls Tryz.prog 11 #[.pointer (some ⟨g, 0, none⟩), .slice bA bn bc, .float .f64 draw] w fun e w' => e = .returned (.agg #[.int .i64 (if b1 = true then (if b2 = true then st else 404) else 400), .int .i64 f0, .string (if b1 = true then pool else ⟨#[]⟩), .string (if b1 = true ∧ b2 = true then addr else ⟨#[]⟩)]) ∧ Below w.heap.size w w' := by
  obtain ⟨A1, c1, A2, c2, h0, _, _, _, _⟩ := hp;have H0 := zN h0;have S1 := zN h1;have S2 := zN h2;have S3 := zN h3;have HB0 := zN (Below.refl w.heap.size w);clear h0 h1 h2 h3;have hu102 := Tryz.underlying95;have hu62 := Tryz.underlying50;have hu25 := Tryz.underlying25;have hu97 := Tryz.underlying70;have hu55 := Tryz.underlying44;have hmf : ∀ (fn : Fn) (first cap : Array Value) (w : World), (Instr.makeFunc fn first cap).run Tryz.prog w = .ok (.func fn first cap) w := fun _ _ _ _ => rfl
  go_enter Tryz.func11, Tryz.ntmps11;go_wp2_with (first | ((with_reducible refine gate_dst (N := 6) rfl ?_); refine zX #[.int .i64 0, .int .i64 0, .string ⟨#[]⟩, .string ⟨#[]⟩] 50 rfl ?_; intro gb hg w1 hbox hb; have n0_ := zN (below_step HB0.out hb); have HG := zN hbox; have GB := zN (Nat.le_of_eq hg.symm : w.heap.size ≤ gb); clear HB0; have HB0 := n0_; clear hb hbox hg n0_) | fail);refine start_ (n := 14) (S := fun w' => w'.cell? ⟨g, 0, none⟩ = some (.int .i64 f0)) (ds := [12]) #[false, false, false, false, false, false, false, false, false, false, false, false, false, false] zQ rfl rfl ((blk_cell (blk_below H0.out HB0.out) 0).trans rfl) (fun hHeld => ?_);refine with_tab (T := serve_T3) serve_tab3 (fun HT_ => ?_);have m0_ := zN (below_drew1 HB0.out);have m1_ := zN (blk_drew HG.out);clear HB0 HG;have HB0 := m0_;have HG := m1_;clear m0_ m1_;generalize w1.drew = w2 at HB0 HG hHeld ⊢;refine zU (i := 0) (N := some 13) #[true, false, false, false, false, false, false, false, false, false, false, false, false, false] rfl rfl HT_ ?_;refine zU (i := 1) (N := some 14) #[true, true, false, false, false, false, false, false, false, false, false, false, false, false] rfl rfl HT_ ?_;refine zU (i := 2) (N := some 15) #[true, true, true, false, false, false, false, false, false, false, false, false, false, false] rfl rfl HT_ ?_;refine zU (i := 3) (N := some 16) #[true, true, true, true, false, false, false, false, false, false, false, false, false, false] rfl rfl HT_ ?_;refine zU (i := 4) (N := some 17) #[true, true, true, true, true, false, false, false, false, false, false, false, false, false] rfl rfl HT_ ?_;refine zU (i := 5) (N := some 18) #[true, true, true, true, true, true, false, false, false, false, false, false, false, false] rfl rfl HT_ ?_;refine zU (i := 6) (N := some 19) #[true, true, true, true, true, true, true, false, false, false, false, false, false, false] rfl rfl HT_ ?_;refine zU (i := 7) (N := some 20) #[true, true, true, true, true, true, true, true, false, false, false, false, false, false] rfl rfl HT_ ?_;refine zU (i := 8) (N := some 21) #[true, true, true, true, true, true, true, true, true, false, false, false, false, false] rfl rfl HT_ ?_;refine take_ (i := 9) (N := some 22) (v := ?_) (a' := ?_) #[true, true, true, true, true, true, true, true, true, true, false, false, false, false] rfl rfl (take_of HT_.out zQ) (fun _ _ _ h => h) (Or.inl ⟨by rfl, ?_⟩) hHeld ?_ ?_;rotate_left
  · rintro w' s0;go_simp
    with_reducible rfl
  rotate_left
  · simp only [zP];rfl
  refine zU (i := 10) (N := some 23) #[true, true, true, true, true, true, true, true, true, true, true, false, false, false] rfl rfl HT_ ?_;refine zU (i := 11) (N := some 24) #[true, true, true, true, true, true, true, true, true, true, true, true, false, false] rfl rfl HT_ ?_;refine last_ (i := 12) (N := some 25) #[true, true, true, true, true, true, true, true, true, true, true, true, true, false] rfl rfl (one_of HT_.out zQ) (by decide) (fun K hK => ?_);refine box_step ?hg (N := 25) ?hd (cs := askedCells g (.slice bA bn bc) draw ⟨#[]⟩ ⟨#[]⟩ ⟨#[]⟩ ⟨#[]⟩ (.slice none 0 0) 0 f0 ⟨#[]⟩ ⟨#[]⟩) (t := 95) ?hr ?_; (case hd => rfl); (case hg => rfl); (case hr => first | (go_simp; done) | (go_simp; rfl));intro ga hg w3 hbox hb;have NE := zN (by rw [hg]; exact Nat.ne_of_lt (blk_lt HG.out) : gb ≠ ga);have GA := zN (by rw [hg]; exact below_size HB0.out : w.heap.size ≤ ga);have m0_ := zN hbox;have m1_ := zN (blk_below HG.out hb);have m2_ := zN (below_step HB0.out hb);clear HG HB0;have HA := m0_;have HG := m1_;have HB0 := m2_;clear m0_ m1_ m2_;clear hb hbox hg;refine hK.out _ _ ?_;clear hHeld;clear hK K;refine norm_ (a' := ?_) ?_ ?_;rotate_left
  · show Act.put _ (some 25) _ = _
    simp only [zP];rfl
  refine zU (i := 13) (N := some 7) #[true, true, true, true, true, true, true, true, true, true, true, true, true, true] rfl rfl HT_ ?_;refine done_ (done_of HT_.out zQ) ?_;clear HT_;go_wp2;have NS := zN (Nat.ne_of_gt (blk_lt HA.out) : w3.heap.size ≠ ga);have HS : Aside0 ((w3.alloc (.cells #[.func (.func 28) #[.pointer (some ⟨ga, 0, none⟩)] #[], .func (.func 29) #[.pointer (some ⟨ga, 0, none⟩)] #[], .func (.func 30) #[.pointer (some ⟨ga, 0, none⟩)] #[]] 96 (0, 0))).heap[w3.heap.size]? = some (.cells #[.func (.func 28) #[.pointer (some ⟨ga, 0, none⟩)] #[], .func (.func 29) #[.pointer (some ⟨ga, 0, none⟩)] #[], .func (.func 30) #[.pointer (some ⟨ga, 0, none⟩)] #[]] 96 (0, 0))) := ⟨blk_new _ _⟩;have m0_ := zN (blk_alloc HA.out (.cells #[.func (.func 28) #[.pointer (some ⟨ga, 0, none⟩)] #[], .func (.func 29) #[.pointer (some ⟨ga, 0, none⟩)] #[], .func (.func 30) #[.pointer (some ⟨ga, 0, none⟩)] #[]] 96 (0, 0)));have m1_ := zN (blk_alloc HG.out (.cells #[.func (.func 28) #[.pointer (some ⟨ga, 0, none⟩)] #[], .func (.func 29) #[.pointer (some ⟨ga, 0, none⟩)] #[], .func (.func 30) #[.pointer (some ⟨ga, 0, none⟩)] #[]] 96 (0, 0)));have m2_ := zN (below_alloc (o := .cells #[.func (.func 28) #[.pointer (some ⟨ga, 0, none⟩)] #[], .func (.func 29) #[.pointer (some ⟨ga, 0, none⟩)] #[], .func (.func 30) #[.pointer (some ⟨ga, 0, none⟩)] #[]] 96 (0, 0)) HB0.out);clear HA HG HB0;have HA := m0_;have HG := m1_;have HB0 := m2_;clear m0_ m1_ m2_;generalize w3.alloc (.cells #[.func (.func 28) #[.pointer (some ⟨ga, 0, none⟩)] #[], .func (.func 29) #[.pointer (some ⟨ga, 0, none⟩)] #[], .func (.func 30) #[.pointer (some ⟨ga, 0, none⟩)] #[]] 96 (0, 0)) = w4 at HA HG HB0 HS ⊢;generalize w3.heap.size = gs at NS HS ⊢;go_loopg [34] 4 (fun n v34 wr => ∃ i : Nat, v34 = .int .i64 (i : Int) ∧ Aside0 (i + n = 4 ∧ i ≤ 2) ∧ Aside0 (i = 0 → AskedAt wr ga g (.slice bA bn bc) draw ⟨#[]⟩ ⟨#[]⟩ ⟨#[]⟩ ⟨#[]⟩ (.slice none 0 0) 0 f0 ⟨#[]⟩ ⟨#[]⟩) ∧ Aside0 (i = 1 → b1 = true ∧ ∃ fs, AskedAt wr ga g (.slice bA bn bc) draw m p q h fs 400 f0 ⟨#[]⟩ ⟨#[]⟩) ∧ Aside0 (i = 2 → b1 = true ∧ b2 = true ∧ ∃ fs, AskedAt wr ga g (.slice bA bn bc) draw m p q h fs 404 f0 pool ⟨#[]⟩) ∧ Aside0 (wr.heap[gb]? = some (.cells #[.int .i64 0, .int .i64 0, .string ⟨#[]⟩, .string ⟨#[]⟩] 50 (0, 0))) ∧ Aside0 (wr.heap[gs]? = some (.cells #[.func (.func 28) #[.pointer (some ⟨ga, 0, none⟩)] #[], .func (.func 29) #[.pointer (some ⟨ga, 0, none⟩)] #[], .func (.func 30) #[.pointer (some ⟨ga, 0, none⟩)] #[]] 96 (0, 0))) ∧ Aside0 (Below w.heap.size w wr))
  case atStart => exact ⟨0, rfl, ⟨zO, zO⟩, ⟨fun _ => HA.out⟩, ⟨fun h => absurd h (by decide)⟩, ⟨fun h => absurd h (by decide)⟩, ⟨HG.out⟩, ⟨HS.out⟩, ⟨HB0.out⟩⟩
  case round =>
    clear HA HG HS HB0;obtain ⟨i, rfl, HN, HI0, HI1, HI2, HG, HS, HB0⟩ := hrel;obtain rfl | rfl | rfl : i = 0 ∨ i = 1 ∨ i = 2 := by have := HN.out; omega
    · rw [show ((0 : Nat) : Int) = 0 from rfl];have q_ : wr.cell? ⟨gs, 0, none⟩ = some (.func (.func 28) #[.pointer (some ⟨ga, 0, none⟩)] #[]) := (blk_cell HS.out 0).trans rfl;go_wp2_with fail;refine (S1.out ga wr GA.out HB0.out (HI0.out (by trivial))).mono ?_;rintro e w5 ⟨A4, n4, c4, rfl, ha, hb, ho⟩;clear q_;have HA := zN ha;have m1_ := zN ((ho.2 gb (blk_lt HG.out) NE.out).trans HG.out);have m2_ := zN ((ho.2 gs (blk_lt HS.out) NS.out).trans HS.out);have m3_ := zN hb;clear HG HS HB0 ha hb ho;have HG := m1_;have HS := m2_;have HB0 := m3_;clear m1_ m2_ m3_;clear HI0 HI1 HI2;cases b1;rotate_left
      · skip
        go_wp2;go_roundg (3 - 0)
        case measure => have := HN.out; omega
        case rel => exact ⟨1, zI, ⟨zO, zO⟩, ⟨fun h => absurd h (by decide)⟩, ⟨fun _ => ⟨by trivial, _, HA.out⟩⟩, ⟨fun h => absurd h (by decide)⟩, ⟨HG.out⟩, ⟨HS.out⟩, ⟨HB0.out⟩⟩
      skip
      have k8 : w5.cell? ⟨ga, 8, none⟩ = some (.int .i64 400) := (blk_cell HA.out 8).trans rfl;have k9 : w5.cell? ⟨ga, 9, none⟩ = some (.int .i64 f0) := (blk_cell HA.out 9).trans rfl;have k10 : w5.cell? ⟨ga, 10, none⟩ = some (.string ⟨#[]⟩) := (blk_cell HA.out 10).trans rfl;have k11 : w5.cell? ⟨ga, 11, none⟩ = some (.string ⟨#[]⟩) := (blk_cell HA.out 11).trans rfl;have z0 : w5.cell? ⟨gb, 0, none⟩ = some (.int .i64 0) := (blk_cell HG.out 0).trans rfl;have y0 := blk_frozen HG.out 0;have z1 : w5.cell? ⟨gb, 1, none⟩ = some (.int .i64 0) := (blk_cell HG.out 1).trans rfl;have y1 := blk_frozen HG.out 1;have z2 : w5.cell? ⟨gb, 2, none⟩ = some (.string ⟨#[]⟩) := (blk_cell HG.out 2).trans rfl;have y2 := blk_frozen HG.out 2;have z3 : w5.cell? ⟨gb, 3, none⟩ = some (.string ⟨#[]⟩) := (blk_cell HG.out 3).trans rfl;have y3 := blk_frozen HG.out 3;go_wp2;refine bodyPost_ret (results_single rfl (Vals.cell gb 50 #[.int .i64 400, .int .i64 f0, .string ⟨#[]⟩, .string ⟨#[]⟩] (0, 0) _ rfl (blk_put (blk_put (blk_put (blk_put HG.out 0 _ rfl) 1 _ rfl) 2 _ rfl) 3 _ rfl) Tryz.underlying50 rfl zQ Vals.nil)) rfl ?_;exact ⟨rfl, below_set (below_set (below_set (below_set HB0.out GB.out) GB.out) GB.out) GB.out⟩
    · rw [show ((1 : Nat) : Int) = 1 from rfl];have q_ : wr.cell? ⟨gs, 1, none⟩ = some (.func (.func 29) #[.pointer (some ⟨ga, 0, none⟩)] #[]) := (blk_cell HS.out 1).trans rfl;go_wp2_with fail;obtain ⟨hb1, fs, ha1⟩ := HI1.out (by trivial);refine (S2.out hb1 ga wr fs GA.out HB0.out ha1).mono ?_;rintro e w5 ⟨rfl, ha, hb, ho⟩;clear q_ ha1;subst hb1;have HA := zN ha;have m1_ := zN ((ho.2 gb (blk_lt HG.out) NE.out).trans HG.out);have m2_ := zN ((ho.2 gs (blk_lt HS.out) NS.out).trans HS.out);have m3_ := zN hb;clear HG HS HB0 ha hb ho;have HG := m1_;have HS := m2_;have HB0 := m3_;clear m1_ m2_ m3_;clear HI0 HI1 HI2;cases b2;rotate_left
      · skip
        go_wp2;go_roundg (3 - 1)
        case measure => have := HN.out; omega
        case rel => exact ⟨2, zI, ⟨zO, zO⟩, ⟨fun h => absurd h (by decide)⟩, ⟨fun h => absurd h (by decide)⟩, ⟨fun _ => ⟨by trivial, by trivial, _, HA.out⟩⟩, ⟨HG.out⟩, ⟨HS.out⟩, ⟨HB0.out⟩⟩
      skip
      have k8 : w5.cell? ⟨ga, 8, none⟩ = some (.int .i64 404) := (blk_cell HA.out 8).trans rfl;have k9 : w5.cell? ⟨ga, 9, none⟩ = some (.int .i64 f0) := (blk_cell HA.out 9).trans rfl;have k10 : w5.cell? ⟨ga, 10, none⟩ = some (.string pool) := (blk_cell HA.out 10).trans rfl;have k11 : w5.cell? ⟨ga, 11, none⟩ = some (.string ⟨#[]⟩) := (blk_cell HA.out 11).trans rfl;have z0 : w5.cell? ⟨gb, 0, none⟩ = some (.int .i64 0) := (blk_cell HG.out 0).trans rfl;have y0 := blk_frozen HG.out 0;have z1 : w5.cell? ⟨gb, 1, none⟩ = some (.int .i64 0) := (blk_cell HG.out 1).trans rfl;have y1 := blk_frozen HG.out 1;have z2 : w5.cell? ⟨gb, 2, none⟩ = some (.string ⟨#[]⟩) := (blk_cell HG.out 2).trans rfl;have y2 := blk_frozen HG.out 2;have z3 : w5.cell? ⟨gb, 3, none⟩ = some (.string ⟨#[]⟩) := (blk_cell HG.out 3).trans rfl;have y3 := blk_frozen HG.out 3;go_wp2;refine bodyPost_ret (results_single rfl (Vals.cell gb 50 #[.int .i64 404, .int .i64 f0, .string pool, .string ⟨#[]⟩] (0, 0) _ rfl (blk_put (blk_put (blk_put (blk_put HG.out 0 _ rfl) 1 _ rfl) 2 _ rfl) 3 _ rfl) Tryz.underlying50 rfl zQ Vals.nil)) rfl ?_;exact ⟨rfl, below_set (below_set (below_set (below_set HB0.out GB.out) GB.out) GB.out) GB.out⟩
    rw [show ((2 : Nat) : Int) = 2 from rfl];have q_ : wr.cell? ⟨gs, 2, none⟩ = some (.func (.func 30) #[.pointer (some ⟨ga, 0, none⟩)] #[]) := (blk_cell HS.out 2).trans rfl;go_wp2_with fail;obtain ⟨hb1, hb2, fs, ha1⟩ := HI2.out (by trivial);refine (S3.out hb1 hb2 ga wr fs GA.out HB0.out ha1).mono ?_;rintro e w5 ⟨rfl, ha, hb, ho⟩;clear q_ ha1;subst hb1 hb2;have HA := zN ha;have m1_ := zN ((ho.2 gb (blk_lt HG.out) NE.out).trans HG.out);have m2_ := zN ((ho.2 gs (blk_lt HS.out) NS.out).trans HS.out);have m3_ := zN hb;clear HG HS HB0 ha hb ho;have HG := m1_;have HS := m2_;have HB0 := m3_;clear m1_ m2_ m3_;clear HI0 HI1 HI2;have k8 : w5.cell? ⟨ga, 8, none⟩ = some (.int .i64 st) := (blk_cell HA.out 8).trans rfl;have k9 : w5.cell? ⟨ga, 9, none⟩ = some (.int .i64 f0) := (blk_cell HA.out 9).trans rfl;have k10 : w5.cell? ⟨ga, 10, none⟩ = some (.string pool) := (blk_cell HA.out 10).trans rfl;have k11 : w5.cell? ⟨ga, 11, none⟩ = some (.string addr) := (blk_cell HA.out 11).trans rfl;have z0 : w5.cell? ⟨gb, 0, none⟩ = some (.int .i64 0) := (blk_cell HG.out 0).trans rfl;have y0 := blk_frozen HG.out 0;have z1 : w5.cell? ⟨gb, 1, none⟩ = some (.int .i64 0) := (blk_cell HG.out 1).trans rfl;have y1 := blk_frozen HG.out 1;have z2 : w5.cell? ⟨gb, 2, none⟩ = some (.string ⟨#[]⟩) := (blk_cell HG.out 2).trans rfl;have y2 := blk_frozen HG.out 2;have z3 : w5.cell? ⟨gb, 3, none⟩ = some (.string ⟨#[]⟩) := (blk_cell HG.out 3).trans rfl;have y3 := blk_frozen HG.out 3;go_wp2;refine bodyPost_ret (results_single rfl (Vals.cell gb 50 #[.int .i64 st, .int .i64 f0, .string pool, .string addr] (0, 0) _ rfl (blk_put (blk_put (blk_put (blk_put HG.out 0 _ rfl) 1 _ rfl) 2 _ rfl) 3 _ rfl) Tryz.underlying50 rfl zQ Vals.nil)) rfl ?_;exact ⟨rfl, below_set (below_set (below_set (below_set HB0.out GB.out) GB.out) GB.out) GB.out⟩
def plane_Serve.f (k : Nat) (f0 : Int) (f1 : List S54) (f2 : List S58) (l : List Int) (draw : Nat) : Option (Int × Int × ByteArray × ByteArray) :=
  (head_Parse.f k l).bind fun x =>
    if x.2.2.2.2.2.2 = 0 then
      (plane_Find.f k f0 f1 f2 x.2.2.2.1 x.2.1).bind fun r =>
        if r.2.2.2 = true then
          (if idxP r.2.2.1 f2 0 < 0 then (if f2.length ≤ 2000 then some (503, f0, r.2.2.1, ⟨#[]⟩) else none)
          else (plane_Weigh.f k (rd_T58 f2 (idxP r.2.2.1 f2 0)).f1 draw).bind fun t =>
            if t.2 = true then (if 0 ≤ t.1 ∧ t.1 < ((rd_T58 f2 (idxP r.2.2.1 f2 0)).f1.length : Int) ∧ f2.length ≤ 2000 then some (200, f0, r.2.2.1, (rd_T62 (rd_T58 f2 (idxP r.2.2.1 f2 0)).f1 t.1).f0) else none) else (if f2.length ≤ 2000 then some (503, f0, r.2.2.1, ⟨#[]⟩) else none))
        else some (404, f0, r.2.2.1, ⟨#[]⟩)
    else some (400, f0, ⟨#[]⟩, ⟨#[]⟩)
theorem idxP_in (pool : ByteArray) : ∀ (l : List S58) (i : Int), idxP pool l i = -1 ∨ (i ≤ idxP pool l i ∧ idxP pool l i < i + l.length)
  | [], i => .inl rfl
  | x :: l, i => by
    unfold idxP
    split
    · right
      simp;omega
    rcases idxP_in pool l (i + 1) with h | h
    · exact .inl h
    right
    simp;omega
theorem plane_Serve.calls (k : Nat) {g : Nat} {f0 : Int} {f1 : List S54} {f2 : List S58} {w : World} (hp : PlaneAt w g f0 f1 f2) (hml : ML w) (A : Option Addr) (c : Nat) (l : List Int) (draw : Nat) (hr : Kd.C (Kd.int .u8) w A l.length l) (hc : l.length ≤ c)
    {r1 r2 : Int} {r3 r4 : ByteArray} (h : plane_Serve.f k f0 f1 f2 l draw = some (r1, r2, r3, r4)) :
    Calls Tryz.prog 11 #[.pointer (some ⟨g, 0, none⟩), .slice A l.length c, .float .f64 draw] w fun e w' => e = .returned (.agg #[.int .i64 r1, .int .i64 r2, .string r3, .string r4]) ∧ Below w.heap.size w w' := by
  unfold plane_Serve.f at h;obtain ⟨⟨m, p, q, hh, fs, n, er⟩, hP, h⟩ := Option.bind_eq_some_iff.1 h;simp only at h;have P1 : ∀ (ga : Nat) (w1 : World), w.heap.size ≤ ga → Below w.heap.size w w1 → AskedAt w1 ga g (.slice A l.length c) draw ⟨#[]⟩ ⟨#[]⟩ ⟨#[]⟩ ⟨#[]⟩ (.slice none 0 0) 0 f0 ⟨#[]⟩ ⟨#[]⟩ → Calls Tryz.prog 28 #[.pointer (some ⟨ga, 0, none⟩)] w1 fun e w' => ∃ A4 n4 c4, e = .returned (.bool (er == 0)) ∧ AskedAt w' ga g (.slice A l.length c) draw m p q hh (.slice A4 n4 c4) 400 f0 ⟨#[]⟩ ⟨#[]⟩ ∧ Below w.heap.size w w' ∧ Only ga w1 w' := by
    intro ga w1 hga hB hA;refine parse_ok hB hga hA (n := n) ?_;refine (head_Parse.calls k A c l m p q hh fs n er w1 (ML.keep hml hB) (Kd.C_below hr hB) hc hP).mono ?_;rintro e w' ⟨v4, rfl, hR, hb⟩;obtain ⟨A4, c4, rfl, _, _⟩ := Kd.R_reads hR;exact ⟨A4, _, c4, rfl, hb⟩
  by_cases he : er = 0;rotate_left
  · rw [zn he] at h;simp only [Option.some.injEq, Prod.mk.injEq] at h;obtain ⟨rfl, rfl, rfl, rfl⟩ := h;have b1 : (er == 0) = false := by simpa using he
    refine (serve_walk hp A l.length c draw (er == 0) false m p q hh ⟨#[]⟩ ⟨#[]⟩ 0 P1 (fun h => absurd h (by rw [b1]; simp)) (fun h => absurd h (by rw [b1]; simp))).mono ?_;rintro e w' ⟨rfl, hb⟩;refine ⟨?_, hb⟩;rw [b1];rfl
  rw [zp he] at h;obtain ⟨⟨s1, s2, pool, ok⟩, hF, h⟩ := Option.bind_eq_some_iff.1 h;simp only at h
  have P2 : ∀ (ga : Nat) (w1 : World) (fs : Value), w.heap.size ≤ ga → Below w.heap.size w w1 → AskedAt w1 ga g (.slice A l.length c) draw m p q hh fs 400 f0 ⟨#[]⟩ ⟨#[]⟩ → Calls Tryz.prog 29 #[.pointer (some ⟨ga, 0, none⟩)] w1 fun e w' => e = .returned (.bool ok) ∧ AskedAt w' ga g (.slice A l.length c) draw m p q hh fs 404 f0 pool ⟨#[]⟩ ∧ Below w.heap.size w w' ∧ Only ga w1 w' :=
    fun ga w1 fs hga hB hA => route_ok hp hB hga hA k hF
  have b1 : (er == 0) = true := by rw [he]; rfl
  cases ok with
  | false =>
    rw [zn (by simp)] at h;simp only [Option.some.injEq, Prod.mk.injEq] at h;obtain ⟨rfl, rfl, rfl, rfl⟩ := h;refine (serve_walk hp A l.length c draw (er == 0) false m p q hh pool ⟨#[]⟩ 0 P1 (fun _ => P2) (fun _ h => absurd h (by simp))).mono ?_;rintro e w' ⟨rfl, hb⟩;refine ⟨?_, hb⟩;rw [b1];rfl
  | true =>
    rw [zp rfl] at h
    have fin : ∀ (st : Int) (addr : ByteArray), (r1, r2, r3, r4) = (st, f0, pool, addr) → (∀ (ga : Nat) (w1 : World) (fs : Value), w.heap.size ≤ ga → Below w.heap.size w w1 → AskedAt w1 ga g (.slice A l.length c) draw m p q hh fs 404 f0 pool ⟨#[]⟩ → Calls Tryz.prog 30 #[.pointer (some ⟨ga, 0, none⟩)] w1 fun e w' => e = .returned (.bool false) ∧ AskedAt w' ga g (.slice A l.length c) draw m p q hh fs st f0 pool addr ∧ Below w.heap.size w w' ∧ Only ga w1 w') →
        Calls Tryz.prog 11 #[.pointer (some ⟨g, 0, none⟩), .slice A l.length c, .float .f64 draw] w fun e w' => e = .returned (.agg #[.int .i64 r1, .int .i64 r2, .string r3, .string r4]) ∧ Below w.heap.size w w' := by
      intro st addr hq P3;simp only [Prod.mk.injEq] at hq;obtain ⟨rfl, rfl, rfl, rfl⟩ := hq;refine (serve_walk hp A l.length c draw (er == 0) true m p q hh r3 r4 r1 P1 (fun _ => P2) (fun _ _ => P3)).mono ?_;rintro e w' ⟨rfl, hb⟩;refine ⟨?_, hb⟩;rw [b1];rfl
    rcases idxP_in pool f2 0 with hi | ⟨hi0, hi1⟩
    · rw [zp zO] at h;by_cases hl2 : f2.length ≤ 2000
      case neg => rw [zn hl2] at h; cases h
      rw [zp hl2] at h;exact fin 503 ⟨#[]⟩ (zo h).symm fun ga w1 fs hga hB hA => take_none hp hB hga hA hl2 hi
    rw [zn zO] at h;obtain ⟨⟨t1, t2⟩, hW, h⟩ := Option.bind_eq_some_iff.1 h;simp only at h;obtain ⟨i, hi⟩ : ∃ i : Nat, idxP pool f2 0 = (i : Int) := ⟨(idxP pool f2 0).toNat, zO⟩;rw [hi] at hW h;have hin : i < f2.length := by omega
    cases t2 with
    | false =>
      rw [zn (by simp)] at h;by_cases hl2 : f2.length ≤ 2000
      case neg => rw [zn hl2] at h; cases h
      rw [zp hl2] at h;exact fin 503 ⟨#[]⟩ (zo h).symm fun ga w1 fs hga hB hA => take_nought hp hB hga hA hl2 hi hin k hW
    | true =>
      rw [zp rfl] at h;by_cases hb : 0 ≤ t1 ∧ t1 < ((rd_T58 f2 (i : Int)).f1.length : Int) ∧ f2.length ≤ 2000
      case neg => rw [zn hb] at h; cases h
      rw [zp hb] at h;obtain ⟨hr0, hr1, hl2⟩ := hb;exact fin 200 _ (zo h).symm fun ga w1 fs hga hB hA => take_hit hp hB hga hA hl2 hi hin k hW hr0 hr1
end Go.Proofs.YtpigfccpogmeaaaGreatDoor.S
end
section
namespace Go.Proofs.YtpigfccpogmeaaaGreatDoor.PP
open Go.RowKit Go.Proofs.YtpigfccpogmeaaaGreatDoor.S Go.Proofs.YtpigfccpogmeaaaGreatDoorW.PrintWords Go.Proofs.YtpigfccpogmeaaaGreatDoorW.PrintLast Go.Proofs.YtpigfccpogmeaaaGreatDoorW.PrintMore Go.Proofs.YtpigfccpogmeaaaGreatDoor.FL
theorem pick_at (t : Nat) (S : Nat → Nat) (d x : Nat) : ∀ (l : List S62) (i last : Nat), (pick t S d x l i last = last ∧ ∀ y ∈ l, cntW t y.f1 = 0) ∨ ∃ j y, l[j]? = some y ∧ 0 < cntW t y.f1 ∧ pick t S d x l i last = i + j
  | [], i, last => Or.inl ⟨rfl, by simp⟩
  | y :: l, i, last => by
    unfold pick;by_cases h1 : 0 < cntW t y.f1
    · rw [zp h1]
      split
      · exact Or.inr ⟨0, y, rfl, h1, rfl⟩
      rcases pick_at t S d x l (i + 1) i with ⟨e, _⟩ | ⟨j, z, hz, hc, e⟩
      · exact Or.inr ⟨0, y, rfl, h1, by rw [e]; rfl⟩
      exact Or.inr ⟨j + 1, z, hz, hc, by rw [e]; omega⟩
    rw [zn h1]
    rcases pick_at t S d x l (i + 1) last with ⟨e, he⟩ | ⟨j, z, hz, hc, e⟩
    · refine Or.inl ⟨e, fun z hz => ?_⟩
      rcases List.mem_cons.1 hz with rfl | hz
      · omega
      exact he z hz
    exact Or.inr ⟨j + 1, z, hz, hc, by rw [e]; omega⟩
theorem weigh_at (l : List S62) (hl : l.length ≤ 200) (d : Nat) : (weighF l d = (0, false) ∧ ¬ ∃ y ∈ l, 0 < y.f1 ∧ y.f1 < INF) ∨ ∃ j : Nat, weighF l d = ((j : Int), true) ∧ j < l.length ∧ 0 < (rd_T62 l (j : Int)).f1 ∧ (rd_T62 l (j : Int)).f1 < INF ∧ ∃ y ∈ l, 0 < y.f1 ∧ y.f1 < INF := by
  unfold weighF;by_cases h : 0 < allW l;rotate_left
  · rw [zn h];exact Or.inl ⟨rfl, fun hx => h ((all_pos l hl).2 hx)⟩
  rw [zp h];have hex := (all_pos l hl).1 h
  rcases pick_at (TT l) (fun i => sumAt (TT l) (l.take (i + 1))) (eff d) (prodS (eff d) (allW l)) l 0 0 with ⟨_, he⟩ | ⟨j, y, hy, hc, e⟩
  · exfalso
    have := sum_zero (TT l) l he;unfold allW at h;omega
  obtain ⟨hj, hy2⟩ := List.getElem?_eq_some_iff.1 hy;have hrd : rd_T62 l (j : Int) = y := by
    simp [rd_T62, List.getD_eq_getElem?_getD, hy]
  obtain ⟨c1, c2⟩ := cntW_pos hc;exact Or.inr ⟨j, by rw [e, Nat.zero_add], hj, by rw [hrd]; exact c1, by rw [hrd]; exact c2, hex⟩
theorem fold_false (h s : ByteArray) : ∀ (l : List S54) (a : Found), (l.foldl (findStep h s) a).2.2.2 = false → l.foldl (findStep h s) a = a
  | [], _, _ => rfl
  | x :: l, a, hf => by
    have e := fold_false h s l (findStep h s a x) hf;rw [List.foldl_cons] at hf ⊢;rw [e] at hf ⊢;unfold findStep at hf ⊢
    split
    rotate_left
    · rfl
    rename_i h1
    rw [zp h1] at hf
    split
    · rename_i h2
      rw [zp h2] at hf
      split
      · rename_i h3
        rw [zp h3] at hf;cases hf
      rfl
    rename_i h2
    rw [zn h2] at hf;cases hf
theorem found_none {h s : ByteArray} {l : List S54} (hf : (findF h s l).2.2.2 = false) : findF h s l = nofound := fold_false h s l nofound hf
theorem fold_route (h s : ByteArray) : ∀ (l : List S54) (a : Found), (l.foldl (findStep h s) a) = a ∨ ∃ x ∈ l, (l.foldl (findStep h s) a).2.2.1 = x.f2
  | [], _ => .inl rfl
  | x :: l, a => by
    rw [List.foldl_cons];have hx : findStep h s a x = a ∨ (findStep h s a x).2.2.1 = x.f2 := by
      unfold findStep
      repeat (first | exact .inl rfl | exact .inr rfl | split)
    rcases fold_route h s l (findStep h s a x) with e | ⟨y, hy, e⟩
    · rw [e]
      rcases hx with e2 | e2
      · exact .inl e2
      exact .inr ⟨x, List.mem_cons_self, e2⟩
    exact .inr ⟨y, List.mem_cons_of_mem _ hy, e⟩
theorem found_route {h s : ByteArray} {l : List S54} (hf : (findF h s l).2.2.2 = true) : ∃ x ∈ l, (findF h s l).2.2.1 = x.f2 := by
  rcases fold_route h s l nofound with e | h
  · exfalso
    unfold findF at hf;rw [e] at hf;cases hf
  exact h
theorem idxP_first (pool : ByteArray) : ∀ (l : List S58) (i : Nat), (∃ x ∈ l, x.f0 = pool) → ∃ d, idxP pool l (i : Int) = ((i + d : Nat) : Int) ∧ d < l.length ∧ (rd_T58 l (d : Int)).f0 = pool ∧ ∀ j, j < d → (rd_T58 l (j : Int)).f0 ≠ pool
  | [], i, h => by
    obtain ⟨_, h, _⟩ := h;cases h
  | x :: l, i, h => by
    by_cases h1 : x.f0 = pool
    · refine ⟨0, ?_, by simp, h1, fun j hj => absurd hj (Nat.not_lt_zero _)⟩;unfold idxP;rw [zp (by rw [h1]; simp)];rfl
    obtain ⟨y, hy, hy2⟩ := h;have hl : ∃ x ∈ l, x.f0 = pool := by
      rcases List.mem_cons.1 hy with rfl | hy
      · exact absurd hy2 h1
      exact ⟨y, hy, hy2⟩
    obtain ⟨d, e, hd, hn, hm⟩ := idxP_first pool l (i + 1) hl;refine ⟨d + 1, ?_, by simpa using hd, hn, fun j hj => ?_⟩
    · unfold idxP;rw [zn (fun e => h1 (by have := eq_of_beq e; rw [ByteArray.toList_eq, ByteArray.toList_eq] at this; exact ByteArray.ext (Array.toList_inj.1 this)))];have e2 : idxP pool l ((i : Int) + 1) = idxP pool l ((i + 1 : Nat) : Int) := rfl;rw [e2, e];omega
    cases j with
    | zero => exact h1
    | succ j => exact hm j zO
def GateLaw (v : Int) (f1 : List S54) (f2 : List S58) (sm sp sq sh : ByteArray) (fl : List S88) (d : Nat) : Prop :=
    ∃ (b : List Int) (e : Int), Ev (fun k => head_Write.f k sm sp sq sh fl) (b, e) ∧
      ((e ≠ 0 ∧ Ev (fun k => plane_Serve.f k v f1 f2 b d) (400, v, ⟨#[]⟩, ⟨#[]⟩)) ∨
      (e = 0 ∧ ∃ (s1 s2 pool : ByteArray) (ok : Bool), Ev (fun k => plane_Find.f k v f1 f2 sh sp) (s1, s2, pool, ok) ∧
        ((ok = false ∧ Ev (fun k => plane_Serve.f k v f1 f2 b d) (404, v, ⟨#[]⟩, ⟨#[]⟩)) ∨
        (ok = true ∧ ∃ i : Nat, i < f2.length ∧ (rd_T58 f2 (i : Int)).f0 = pool ∧ (∀ j, j < i → (rd_T58 f2 (j : Int)).f0 ≠ pool) ∧
          ((Ev (fun k => plane_Weigh.f k (rd_T58 f2 (i : Int)).f1 d) (0, false) ∧ Ev (fun k => plane_Serve.f k v f1 f2 b d) (503, v, pool, ⟨#[]⟩)) ∨
          ∃ t : Nat, t < (rd_T58 f2 (i : Int)).f1.length ∧ Ev (fun k => plane_Weigh.f k (rd_T58 f2 (i : Int)).f1 d) ((t : Int), true) ∧ Ev (fun k => plane_Serve.f k v f1 f2 b d) (200, v, pool, (rd_T62 (rd_T58 f2 (i : Int)).f1 (t : Int)).f0))))))
theorem gate_is (v : Int) (f1 : List S54) (f2 : List S58) (m p q hh : List UInt8) (fs : List HP.Fd) (d : Nat) (hpre : (HP.preW m p q).length ≤ 100000000) (hsz : HP.szF fs ≤ 100000000) (hfs : fs.length ≤ 100000000)
    (hl : f1.length ≤ 200) (hp : f2.length ≤ 200) (ht : ∀ p ∈ f2, p.f1.length ≤ 200) (hw : ∀ p ∈ f2, ∀ y ∈ p.f1, y.f1 < 18446744073709551616) (hd : d < 18446744073709551616) (hrp : ∀ r ∈ f1, ∃ x ∈ f2, x.f0 = r.f2) :
    GateLaw v f1 f2 (HP.B m) (HP.B p) (HP.B q) (HP.B hh) (fs.map HP.sF) d := by
  unfold GateLaw;have hW := HP.write_is m p q hh fs hpre hsz hfs
  rcases HP.W2_cases m p q fs (HP.wOk m p q hh fs) (HP.nh fs) with ⟨e, he, hW2⟩ | ⟨hok, h1n, h32, hL, hW2⟩
  · rw [hW2] at hW;refine ⟨[], e, hW, .inl ⟨zO, ?_⟩⟩;have hP := HP.parseS_is [];unfold plane_Serve.f;refine Ev.bind hP (Ev.neg (by decide +kernel) (Ev.ret rfl))
  rw [hW2] at hW;refine ⟨_, 0, hW, .inr ⟨rfl, ?_⟩⟩;have hP := HP.parse_write m p q hh fs [] (by simp) hok h1n h32 hL;rw [List.append_nil] at hP;have hpz : (HP.B p).size ≤ 4611686018427387904 := by
    rw [HP.B_size];have := HP.tgt_length p q;have := HP.writeL_length m p q fs;omega
  have hF := Find_is v f1 f2 (HP.B hh) (HP.B p) hpz zO;cases hf : (findF (HP.B hh) (HP.B p) f1).2.2.2 with
  | false =>
    rw [found_none hf] at hF;refine ⟨_, _, _, false, hF, .inl ⟨rfl, ?_⟩⟩;unfold plane_Serve.f;exact Ev.bind hP (Ev.pos rfl (Ev.bind hF (Ev.neg (by simp [nofound]) (Ev.ret rfl))))
  | true =>
    obtain ⟨x, hx, hx2⟩ := found_route hf;obtain ⟨y, hy, hy2⟩ := hrp x hx;generalize hff : findF (HP.B hh) (HP.B p) f1 = ff at hF hf hx2;obtain ⟨s1, s2, pool, ok⟩ := ff;simp only at hf hx2;subst hf;refine ⟨s1, s2, pool, true, hF, .inr ⟨rfl, ?_⟩⟩;obtain ⟨i, hi, hlt, hn, hm⟩ := idxP_first pool f2 0 ⟨y, hy, by rw [hy2, hx2]⟩;rw [Nat.zero_add] at hi
    change idxP pool f2 0 = (i : Int) at hi
    refine ⟨i, hlt, hn, hm, ?_⟩;have hmem : rd_T58 f2 (i : Int) ∈ f2 := List.mem_of_getElem? (idx_rd f2 i hlt);have hWe := Weigh_is (rd_T58 f2 (i : Int)).f1 (ht _ hmem) (hw _ hmem) d hd
    rcases weigh_at (rd_T58 f2 (i : Int)).f1 (ht _ hmem) d with ⟨e, _⟩ | ⟨t, e, hlt2, _⟩
    · rw [e] at hWe;refine .inl ⟨hWe, ?_⟩;unfold plane_Serve.f;refine Ev.bind hP (Ev.pos rfl (Ev.bind hF (Ev.pos rfl ?_)));simp only [hi];exact Ev.neg zO (Ev.bind hWe (Ev.neg (by simp) (Ev.pos zO (Ev.ret rfl))))
    rw [e] at hWe;refine .inr ⟨t, hlt2, hWe, ?_⟩;unfold plane_Serve.f;refine Ev.bind hP (Ev.pos rfl (Ev.bind hF (Ev.pos rfl ?_)));simp only [hi];exact Ev.neg zO (Ev.bind hWe (Ev.pos rfl (Ev.pos ⟨zO, zO, zO⟩ (Ev.ret rfl))))
def GateSays (v : Int) (f1 : List S54) (f2 : List S58) (sp sh : ByteArray) (d : Nat) (e st : Int) (pl ad : ByteArray) : Prop :=
    (e ≠ 0 ∧ st = 400) ∨ (e = 0 ∧ ∃ (s1 s2 pool : ByteArray) (ok : Bool), Ev (fun k => plane_Find.f k v f1 f2 sh sp) (s1, s2, pool, ok) ∧
      ((ok = false ∧ st = 404 ∧ pl = ⟨#[]⟩ ∧ ad = ⟨#[]⟩) ∨
      (ok = true ∧ pl = pool ∧ ∃ i : Nat, i < f2.length ∧ (rd_T58 f2 (i : Int)).f0 = pool ∧ (∀ j, j < i → (rd_T58 f2 (j : Int)).f0 ≠ pool) ∧
        ((Ev (fun k => plane_Weigh.f k (rd_T58 f2 (i : Int)).f1 d) (0, false) ∧ st = 503 ∧ ad = ⟨#[]⟩) ∨
        ∃ t : Nat, t < (rd_T58 f2 (i : Int)).f1.length ∧ Ev (fun k => plane_Weigh.f k (rd_T58 f2 (i : Int)).f1 d) ((t : Int), true) ∧ st = 200 ∧ ad = (rd_T62 (rd_T58 f2 (i : Int)).f1 (t : Int)).f0))))
theorem GateLaw.says {v : Int} {f1 : List S54} {f2 : List S58} {sm sp sq sh : ByteArray} {fl : List S88} {d : Nat} (h : GateLaw v f1 f2 sm sp sq sh fl d) :
    ∃ (b : List Int) (e st : Int) (pl ad : ByteArray), Ev (fun k => head_Write.f k sm sp sq sh fl) (b, e) ∧ Ev (fun k => plane_Serve.f k v f1 f2 b d) (st, v, pl, ad) ∧ GateSays v f1 f2 sp sh d e st pl ad := by
  obtain ⟨b, e, hW, ⟨he, hS⟩ | ⟨he, s1, s2, pool, ok, hF, ⟨ho, hS⟩ | ⟨ho, i, hi, hn, hm, ⟨hWe, hS⟩ | ⟨t, ht, hWe, hS⟩⟩⟩⟩ := h
  · exact ⟨b, e, _, _, _, hW, hS, .inl ⟨he, rfl⟩⟩
  · exact ⟨b, e, _, _, _, hW, hS, .inr ⟨he, s1, s2, pool, ok, hF, .inl ⟨ho, rfl, rfl, rfl⟩⟩⟩
  · exact ⟨b, e, _, _, _, hW, hS, .inr ⟨he, s1, s2, pool, ok, hF, .inr ⟨ho, rfl, i, hi, hn, hm, .inl ⟨hWe, rfl, rfl⟩⟩⟩⟩
  exact ⟨b, e, _, _, _, hW, hS, .inr ⟨he, s1, s2, pool, ok, hF, .inr ⟨ho, rfl, i, hi, hn, hm, .inr ⟨t, ht, hWe, rfl, rfl⟩⟩⟩⟩
end Go.Proofs.YtpigfccpogmeaaaGreatDoor.PP
end
section
namespace Go.Proofs.YtpigfccpogmeaaaGreatDoor.bulks
open Go.ChangeShapes Go.WideShapes
theorem one_le {H : Type} (d : DataW H) : 1 ≤ Rows.uptoBulk d := by
  cases d with
  | lit l => cases l <;> simp [Rows.uptoBulk]
  | nil => simp [Rows.uptoBulk]
  | ptr d => simp [Rows.uptoBulk]
  | slice elems spare => simp [Rows.uptoBulk]
  | agg parts => simp [Rows.uptoBulk]
  | iface t d => simp [Rows.uptoBulk]
  | map entries => simp [Rows.uptoBulk]
  | held h => simp [Rows.uptoBulk]
theorem length_le {H : Type} (l : List (DataW H)) : l.length ≤ Rows.uptoBulkAll l := by
  induction l with
  | nil => simp [Rows.uptoBulkAll]
  | cons x r ih => have := one_le x; simp only [Rows.uptoBulkAll, List.length_cons]; omega
theorem bound {H : Type} {l : List (DataW H)} (hk : Rows.uptoSmall H l = true) : Rows.uptoBulkAll l ≤ 1048576 := zd hk
end Go.Proofs.YtpigfccpogmeaaaGreatDoor.bulks
end
section
namespace Go.Proofs.YtpigfccpogmeaaaGreatDoor.opens
open Go.ChangeShapes Go.WideShapes Go.Deep Go.Proofs.YtpigfccpogmeaaaGreatDoorW.PrintWords
structure Rd (P : Program) (t : TypeId) {α : Type} (d : Kd α) (ok : α → Prop) (mu : α → Nat) : Prop where
  out : ∀ {H : Type} {enc : TypeId × Value → H} {w : World} {base : Nat} {spare : Nat → Bool} {held : Bool} {fuel : Nat} {cs : List Value} {x : DataW H × List MemPlace}, DataW.trod enc P w base spare held fuel t cs = some x → ∃ y, d.K w y cs ∧ ok y ∧ mu y ≤ Rows.uptoBulk x.1
variable {P : Program} {t : TypeId}
theorem Rd.int {k : IntKind} (ht : P.underlying t = some (.int k)) : Rd P t (Kd.int k) (fun n => (Lit.int k n).wf = true) (fun _ => 1) := ⟨fun h => by
  obtain ⟨n, rfl, rfl, hw⟩ := DataW.trod_int ht h;exact ⟨n, rfl, hw, bulks.one_le _⟩⟩
theorem Rd.bool (ht : P.underlying t = some .bool) : Rd P t Kd.bool (fun _ => True) (fun _ => 1) := ⟨fun h => by
  obtain ⟨n, rfl, rfl⟩ := DataW.trod_bool ht h;exact ⟨n, rfl, trivial, bulks.one_le _⟩⟩
theorem Rd.string (ht : P.underlying t = some .string) : Rd P t Kd.string (fun s => s.size ≤ 9223372036854775807) (fun s => s.size + 1) := ⟨fun h => by
  obtain ⟨s, rfl, rfl, hs⟩ := DataW.trod_string ht h;refine ⟨s, rfl, hs, ?_⟩;simp only [Rows.uptoBulk, Array.length_toList];exact zh _⟩
def Kdf : Kd Nat := Kd.scalar (Value.float .f64) (fun _ => rfl)
theorem Rd.float (ht : P.underlying t = some (.float .f64)) : Rd P t Kdf (fun b => (Lit.float .f64 b).wf = true) (fun _ => 1) := ⟨fun {H enc w base spare held fuel cs x} h => by
  cases fuel with
  | zero => simp [DataW.trod] at h
  | succ n =>
    unfold DataW.trod at h;rw [ht] at h
    split at h
    all_goals first
      | (simp at h; done)
      | (rename_i heq; cases heq; done)
      | (rename_i heq; cases heq
         split at h
         · rename_i hh
           obtain ⟨rfl, hw⟩ := hh;injection h with h
           subst h;exact ⟨_, rfl, hw, bulks.one_le _⟩
         cases h)⟩
theorem Rd.iso {α β : Type} {d : Kd α} {ok : α → Prop} {mu : α → Nat} (f : β → α) (g : α → β) (hfg : ∀ x, f (g x) = x) (h : Rd P t d ok mu) : Rd P t (Kd.iso d f) (fun y => ok (f y)) (fun y => mu (f y)) := ⟨fun hx => by
  obtain ⟨y, hK, ho, hm⟩ := h.out hx;refine ⟨g y, ?_, ?_, ?_⟩
  · show d.K _ (f (g y)) _
    rw [hfg];exact hK
  · rw [hfg]; exact ho
  rw [hfg]; exact hm⟩
theorem sum_le_bulk {H : Type} {α : Type} (mu : α → Nat) : ∀ (l : List α) (D : List (DataW H)), l.length ≤ D.length → (∀ (i : Nat) (y : α) (z : DataW H), l[i]? = some y → D[i]? = some z → mu y ≤ Rows.uptoBulk z) → (l.map mu).sum ≤ Rows.uptoBulkAll D
  | [], _, _, _ => by simp
  | _ :: _, [], h, _ => by simp at h
  | y :: l, z :: D, h, hi => by
    have h0 := hi 0 y z rfl rfl;have h1 := sum_le_bulk mu l D (by simpa using h) (fun i y z hy hz => hi (i + 1) y z (by simpa using hy) (by simpa using hz));simp only [List.map_cons, List.sum_cons, Rows.uptoBulkAll];omega
theorem Rd.slice {e : TypeId} {α : Type} {d : Kd α} {ok : α → Prop} {mu : α → Nat} (ht : P.underlying t = some (.slice e)) (hc : P.cellsOf e = d.sz) (h : Rd P e d ok mu) :
    Rd P t (Kd.slice e d) (fun l => ∀ y ∈ l, ok y) (fun l => (l.map mu).sum + 1) := ⟨fun {H enc w base spare held fuel cs x} hx => by
  rcases open_slice ht hx with ⟨rfl, rfl⟩ | ⟨a, len, cap, m, n, D, Pl, rfl, hb, hl, hm, hmm, rfl, hel⟩
  · exact ⟨[], ⟨none, 0, rfl, zh _, Kd.C_nil _ _⟩, by simp, by simp [Rows.uptoBulk]⟩
  have hlm : len ≤ m := by rw [hmm]; split <;> omega
  have hy : ∀ i : Fin len, ∃ (y : α), ∃ cs', w.cells? base (a.add (i.1 * P.cellsOf e)) (P.cellsOf e) = some cs' ∧ d.K w y cs' ∧ ok y ∧ mu y ≤ Rows.uptoBulk (D i.1) := by
    intro i;obtain ⟨cs', hcs, htr⟩ := hel i.1 (by have := i.2; omega);obtain ⟨y, hK, ho, hmu⟩ := h.out htr;exact ⟨y, cs', hcs, hK, ho, hmu⟩
  obtain ⟨f, hf⟩ : ∃ f : Fin len → α, ∀ i, ∃ cs', w.cells? base (a.add (i.1 * P.cellsOf e)) (P.cellsOf e) = some cs' ∧ d.K w (f i) cs' ∧ ok (f i) ∧ mu (f i) ≤ Rows.uptoBulk (D i.1) := ⟨fun i => Classical.choose (hy i), fun i => Classical.choose_spec (hy i)⟩;have hlen : (List.ofFn f).length = len := List.length_ofFn;refine ⟨List.ofFn f, ⟨some a, cap, by rw [hlen], by rw [hlen]; exact hl, ⟨rfl, by rw [hlen]; unfold maxLen at hm; omega, fun _ => ⟨a, rfl, fun j p hj => ?_⟩⟩⟩, ?_, ?_⟩
  · obtain ⟨hj2, hp⟩ := List.getElem?_eq_some_iff.1 hj;rw [List.getElem_ofFn] at hp;obtain ⟨cs', hcs, hK, _, _⟩ := hf ⟨j, by simpa using hj2⟩;rw [hp] at hK;obtain ⟨_, hl2, hcell⟩ := World.cells?_some hcs;refine ⟨cs', d.K_len hK, hK, fun i u hu => ?_⟩;have hi : i < cs'.length := (List.getElem?_eq_some_iff.1 hu).1;have := hcell i zO;rw [Go.Deep.add_add, hc] at this;rw [this, hu]
  · intro y hy;obtain ⟨i, rfl⟩ := List.mem_ofFn.1 hy;obtain ⟨_, _, _, ho, _⟩ := hf i;exact ho
  simp only [Rows.uptoBulk];have := sum_le_bulk mu (List.ofFn f) ((List.range len).map D) (by simp) (fun i y z hy hz => by
    obtain ⟨hj2, hp⟩ := List.getElem?_eq_some_iff.1 hy;rw [List.getElem_ofFn] at hp;have hi : i < len := by simpa using hj2
    obtain ⟨_, _, _, _, hmu⟩ := hf ⟨i, hi⟩;rw [hp] at hmu;rw [List.getElem?_map, List.getElem?_range hi] at hz;injection hz with hz
    rw [← hz];exact hmu)
  omega⟩
structure RdF (P : Program) (fs : List Field) (off : Nat) {α : Type} (d : Kd α) (ok : α → Prop) (mu : α → Nat) : Prop where
  out : ∀ {H : Type} {enc : TypeId × Value → H} {w : World} {base : Nat} {spare : Nat → Bool} {held : Bool} {fuel : Nat} {cs : List Value} {xs : List (DataW H × List MemPlace)}, cs.length = d.sz → xs.length = fs.length →
    (∀ (i : Nat) (f : Field), fs[i]? = some f → DataW.trod enc P w base spare held fuel f.type ((cs.drop (f.offset - off)).take (P.cellsOf f.type)) = xs[i]?) → (∀ f ∈ fs, off ≤ f.offset) → ∃ y, d.K w y cs ∧ ok y ∧ mu y ≤ Rows.uptoBulkAll (xs.map (·.1))
theorem RdF.one {f : Field} {off : Nat} {α : Type} {d : Kd α} {ok : α → Prop} {mu : α → Nat} (ho : f.offset = off) (hc : P.cellsOf f.type = d.sz) (h : Rd P f.type d ok mu) : RdF P [f] off d ok mu := ⟨fun {H enc w base spare held fuel cs xs} hl hx hf _ => by
  match xs, hx with
  | [x], _ =>
    have h0 := hf 0 f rfl;rw [ho, Nat.sub_self, List.drop_zero, List.take_of_length_le zO] at h0;obtain ⟨y, hK, hok, hmu⟩ := h.out h0;exact ⟨y, hK, hok, by simp only [List.map_cons, List.map_nil, Rows.uptoBulkAll]; omega⟩⟩
theorem RdF.cons {f : Field} {fs : List Field} {off : Nat} {α β : Type} {d : Kd α} {ok : α → Prop} {mu : α → Nat} {d' : Kd β} {ok' : β → Prop} {mu' : β → Nat} (ho : f.offset = off) (hc : P.cellsOf f.type = d.sz) (h : Rd P f.type d ok mu) (hle : ∀ g ∈ fs, off + d.sz ≤ g.offset)
    (h' : RdF P fs (off + d.sz) d' ok' mu') : RdF P (f :: fs) off (Kd.pair d d') (fun y => ok y.1 ∧ ok' y.2) (fun y => mu y.1 + mu' y.2) := ⟨fun {H enc w base spare held fuel cs xs} hl hx hf _ => by
  match xs, hx with
  | x :: xs, hx =>
    have hsz : cs.length = d.sz + d'.sz := hl;have h0 := hf 0 f rfl;rw [ho, Nat.sub_self, List.drop_zero, hc] at h0;obtain ⟨y, hK, hok, hmu⟩ := h.out h0;obtain ⟨y', hK', hok', hmu'⟩ := h'.out (cs := cs.drop d.sz) (xs := xs) (by rw [List.length_drop]; omega) (by simpa using hx) (fun i g hg => by
      have h1 := hf (i + 1) g (by simpa using hg);have := hle g (List.mem_of_getElem? hg);rw [List.drop_drop, show d.sz + (g.offset - (off + d.sz)) = g.offset - off by omega];simpa using h1) hle
    refine ⟨(y, y'), ⟨cs.take d.sz, cs.drop d.sz, (List.take_append_drop _ _).symm, hK, hK'⟩, ⟨hok, hok'⟩, ?_⟩;simp only [List.map_cons, Rows.uptoBulkAll];omega⟩
theorem Rd.structS {fs : Array Field} {α : Type} {d : Kd α} {ok : α → Prop} {mu : α → Nat} (ht : P.underlying t = some (.struct fs)) (hc : P.cellsOf t = d.sz) (h : RdF P fs.toList 0 d ok mu) : Rd P t d ok (fun y => mu y + 1) := ⟨fun hx => by
  obtain ⟨xs, n, _, rfl, hl, hlen, hf⟩ := DataW.trod_struct ht hx;obtain ⟨y, hK, hok, hmu⟩ := h.out (hl.trans hc) (by simpa using hlen) (fun i f hi => by rw [Nat.sub_zero]; exact hf i f (by simpa using hi)) (fun f _ => Nat.zero_le _);exact ⟨y, hK, hok, by simp only [Rows.uptoBulk]; omega⟩⟩
structure RdA (P : Program) (e : TypeId) (n : Nat) {α : Type} (d : Kd α) (ok : α → Prop) (mu : α → Nat) : Prop where
  out : ∀ {H : Type} {enc : TypeId × Value → H} {w : World} {base : Nat} {spare : Nat → Bool} {held : Bool} {fuel : Nat} {cs : List Value} {xs : List (DataW H × List MemPlace)}, cs.length = d.sz → xs.length = n →
    (∀ (i : Nat), i < n → DataW.trod enc P w base spare held fuel e ((cs.drop (i * P.cellsOf e)).take (P.cellsOf e)) = xs[i]?) → ∃ y, d.K w y cs ∧ ok y ∧ mu y ≤ Rows.uptoBulkAll (xs.map (·.1))
theorem RdA.one {e : TypeId} {α : Type} {d : Kd α} {ok : α → Prop} {mu : α → Nat} (hc : P.cellsOf e = d.sz) (h : Rd P e d ok mu) : RdA P e 1 d ok mu := ⟨fun {H enc w base spare held fuel cs xs} hl hx hf => by
  match xs, hx with
  | [x], _ =>
    have h0 := hf 0 zO;rw [Nat.zero_mul, List.drop_zero, List.take_of_length_le zO] at h0;obtain ⟨y, hK, hok, hmu⟩ := h.out h0;exact ⟨y, hK, hok, by simp only [List.map_cons, List.map_nil, Rows.uptoBulkAll]; omega⟩⟩
theorem RdA.cons {e : TypeId} {n : Nat} {α β : Type} {d : Kd α} {ok : α → Prop} {mu : α → Nat} {d' : Kd β} {ok' : β → Prop} {mu' : β → Nat} (hc : P.cellsOf e = d.sz) (h : Rd P e d ok mu)
    (h' : RdA P e n d' ok' mu') : RdA P e (n + 1) (Kd.pair d d') (fun y => ok y.1 ∧ ok' y.2) (fun y => mu y.1 + mu' y.2) := ⟨fun {H enc w base spare held fuel cs xs} hl hx hf => by
  match xs, hx with
  | x :: xs, hx =>
    have hsz : cs.length = d.sz + d'.sz := hl;have h0 := hf 0 zO;rw [Nat.zero_mul, List.drop_zero, hc] at h0;obtain ⟨y, hK, hok, hmu⟩ := h.out h0;obtain ⟨y', hK', hok', hmu'⟩ := h'.out (cs := cs.drop d.sz) (xs := xs) (by rw [List.length_drop]; omega) (by simpa using hx) (fun i hi => by
      have h1 := hf (i + 1) zO;rw [List.drop_drop, ← hc, show P.cellsOf e + i * P.cellsOf e = (i + 1) * P.cellsOf e by rw [Nat.add_mul]; omega];simpa using h1)
    refine ⟨(y, y'), ⟨cs.take d.sz, cs.drop d.sz, (List.take_append_drop _ _).symm, hK, hK'⟩, ⟨hok, hok'⟩, ?_⟩;simp only [List.map_cons, Rows.uptoBulkAll];omega⟩
end Go.Proofs.YtpigfccpogmeaaaGreatDoor.opens
end
section
namespace Go.Proofs.YtpigfccpogmeaaaGreatDoor.S
open Go.RowKit Go.Proofs.YtpigfccpogmeaaaGreatDoorW.PrintWords Go.Proofs.YtpigfccpogmeaaaGreatDoorW.PrintLast Go.Proofs.YtpigfccpogmeaaaGreatDoor.opens
set_option linter.unusedVariables false
def ok62 (x : S62) : Prop := x.f0.size ≤ 9223372036854775807 ∧ (Lit.float .f64 x.f1).wf = true
def mu62 (x : S62) : Nat := ((x.f0.size + 1) + 1) + 1
theorem o62 : Rd Tryz.prog 62 k62 ok62 mu62 := by
  have h := Rd.iso (fun x : S62 => (x.f0, x.f1)) (fun p : ByteArray × Nat => (⟨p.1, p.2⟩ : S62)) (fun _ => rfl) (Rd.structS (d := (Kd.pair Kd.string Kd.float)) Tryz.underlying62 zQ (RdF.cons rfl zQ (Rd.string Tryz.underlying9) (by decide) (RdF.one rfl zQ (Rd.float Tryz.underlying26))));exact h
structure S35 where
  f0 : Int
  f1 : Int
  f2 : Int
  f3 : Int
  f4 : ByteArray
  f5 : ByteArray
  f6 : ByteArray
  f7 : List (S62)
def k35 : Kd S35 := Kd.iso (Kd.pair (Kd.int .i64) (Kd.pair (Kd.int .i64) (Kd.pair (Kd.int .i64) (Kd.pair (Kd.int .i64) (Kd.pair Kd.string (Kd.pair Kd.string (Kd.pair Kd.string (Kd.slice 62 k62)))))))) (fun x : S35 => (x.f0, x.f1, x.f2, x.f3, x.f4, x.f5, x.f6, x.f7))
theorem k35_open {w : World} {x : S35} {cs : List Value} (h : k35.K w x cs) : ∃ A7 c7, cs = [.int .i64 x.f0, .int .i64 x.f1, .int .i64 x.f2, .int .i64 x.f3, .string x.f4, .string x.f5, .string x.f6, .slice A7 x.f7.length c7] ∧ x.f7.length ≤ c7 ∧ k62.C w A7 x.f7.length x.f7 := by
  obtain ⟨_, _, rfl, rfl, ⟨_, _, rfl, rfl, ⟨_, _, rfl, rfl, ⟨_, _, rfl, rfl, ⟨_, _, rfl, rfl, ⟨_, _, rfl, rfl, ⟨_, _, rfl, rfl, ⟨A7, c7, rfl, l7, g7⟩⟩⟩⟩⟩⟩⟩⟩ := h;exact ⟨A7, c7, rfl, l7, g7⟩
def ok35 (x : S35) : Prop := (Lit.int .i64 x.f0).wf = true ∧ (Lit.int .i64 x.f1).wf = true ∧ (Lit.int .i64 x.f2).wf = true ∧ (Lit.int .i64 x.f3).wf = true ∧ x.f4.size ≤ 9223372036854775807 ∧ x.f5.size ≤ 9223372036854775807 ∧ x.f6.size ≤ 9223372036854775807 ∧ (∀ y ∈ x.f7, ok62 y)
def mu35 (x : S35) : Nat := (1 + (1 + (1 + (1 + ((x.f4.size + 1) + ((x.f5.size + 1) + ((x.f6.size + 1) + ((x.f7.map (fun y => mu62 y)).sum + 1)))))))) + 1
theorem o35 : Rd Tryz.prog 35 k35 ok35 mu35 := by
  have h := Rd.iso (fun x : S35 => (x.f0, x.f1, x.f2, x.f3, x.f4, x.f5, x.f6, x.f7)) (fun p : Int × Int × Int × Int × ByteArray × ByteArray × ByteArray × List (S62) => (⟨p.1, p.2.1, p.2.2.1, p.2.2.2.1, p.2.2.2.2.1, p.2.2.2.2.2.1, p.2.2.2.2.2.2.1, p.2.2.2.2.2.2.2⟩ : S35)) (fun _ => rfl) (Rd.structS (d := (Kd.pair (Kd.int .i64) (Kd.pair (Kd.int .i64) (Kd.pair (Kd.int .i64) (Kd.pair (Kd.int .i64) (Kd.pair Kd.string (Kd.pair Kd.string (Kd.pair Kd.string (Kd.slice 62 k62))))))))) Tryz.underlying35 zQ (RdF.cons rfl zQ (Rd.int Tryz.underlying32) (by decide) (RdF.cons rfl zQ (Rd.int Tryz.underlying3) (by decide) (RdF.cons rfl zQ (Rd.int Tryz.underlying3) (by decide) (RdF.cons rfl zQ (Rd.int Tryz.underlying3) (by decide) (RdF.cons rfl zQ (Rd.string Tryz.underlying9) (by decide) (RdF.cons rfl zQ (Rd.string Tryz.underlying9) (by decide) (RdF.cons rfl zQ (Rd.string Tryz.underlying9) (by decide) (RdF.one rfl zQ (Rd.slice Tryz.underlying33 zQ o62))))))))));exact h
def ok88 (x : S88) : Prop := x.f0.size ≤ 9223372036854775807 ∧ x.f1.size ≤ 9223372036854775807
def mu88 (x : S88) : Nat := ((x.f0.size + 1) + (x.f1.size + 1)) + 1
theorem o88 : Rd Tryz.prog 88 k88 ok88 mu88 := by
  have h := Rd.iso (fun x : S88 => (x.f0, x.f1)) (fun p : ByteArray × ByteArray => (⟨p.1, p.2⟩ : S88)) (fun _ => rfl) (Rd.structS (d := (Kd.pair Kd.string Kd.string)) Tryz.underlying88 zQ (RdF.cons rfl zQ (Rd.string Tryz.underlying9) (by decide) (RdF.one rfl zQ (Rd.string Tryz.underlying9))));exact h
structure S25 where
  f0 : ByteArray
  f1 : ByteArray
  f2 : ByteArray
  f3 : ByteArray
  f4 : List (S88)
def k25 : Kd S25 := Kd.iso (Kd.pair Kd.string (Kd.pair Kd.string (Kd.pair Kd.string (Kd.pair Kd.string (Kd.slice 88 k88))))) (fun x : S25 => (x.f0, x.f1, x.f2, x.f3, x.f4))
theorem k25_open {w : World} {x : S25} {cs : List Value} (h : k25.K w x cs) : ∃ A4 c4, cs = [.string x.f0, .string x.f1, .string x.f2, .string x.f3, .slice A4 x.f4.length c4] ∧ x.f4.length ≤ c4 ∧ k88.C w A4 x.f4.length x.f4 := by
  obtain ⟨_, _, rfl, rfl, ⟨_, _, rfl, rfl, ⟨_, _, rfl, rfl, ⟨_, _, rfl, rfl, ⟨A4, c4, rfl, l4, g4⟩⟩⟩⟩⟩ := h;exact ⟨A4, c4, rfl, l4, g4⟩
def ok25 (x : S25) : Prop := x.f0.size ≤ 9223372036854775807 ∧ x.f1.size ≤ 9223372036854775807 ∧ x.f2.size ≤ 9223372036854775807 ∧ x.f3.size ≤ 9223372036854775807 ∧ (∀ y ∈ x.f4, ok88 y)
def mu25 (x : S25) : Nat := ((x.f0.size + 1) + ((x.f1.size + 1) + ((x.f2.size + 1) + ((x.f3.size + 1) + ((x.f4.map (fun y => mu88 y)).sum + 1))))) + 1
theorem o25 : Rd Tryz.prog 25 k25 ok25 mu25 := by
  have h := Rd.iso (fun x : S25 => (x.f0, x.f1, x.f2, x.f3, x.f4)) (fun p : ByteArray × ByteArray × ByteArray × ByteArray × List (S88) => (⟨p.1, p.2.1, p.2.2.1, p.2.2.2.1, p.2.2.2.2⟩ : S25)) (fun _ => rfl) (Rd.structS (d := (Kd.pair Kd.string (Kd.pair Kd.string (Kd.pair Kd.string (Kd.pair Kd.string (Kd.slice 88 k88)))))) Tryz.underlying25 zQ (RdF.cons rfl zQ (Rd.string Tryz.underlying9) (by decide) (RdF.cons rfl zQ (Rd.string Tryz.underlying9) (by decide) (RdF.cons rfl zQ (Rd.string Tryz.underlying9) (by decide) (RdF.cons rfl zQ (Rd.string Tryz.underlying9) (by decide) (RdF.one rfl zQ (Rd.slice Tryz.underlying23 zQ o88)))))));exact h
open Go.RowKit Go.Maps Go.Proofs.YtpigfccpogmeaaaGreatDoorW.PrintWords Go.Proofs.YtpigfccpogmeaaaGreatDoorW.PrintLast Go.Proofs.YtpigfccpogmeaaaGreatDoorW.PrintMore
set_option linter.unusedSimpArgs false
theorem PlaneOwn.agree {W W1 : World} {base g : Nat} {f0 : Int} {f1 : List S54} {f2 : List S58} (h : PlaneOwn W base g f0 f1 f2) (hg : W1.heap[g]? = W.heap[g]?) (hb : ∀ k, base ≤ k → k < W.heap.size → W1.heap[k]? = W.heap[k]?) : PlaneOwn W1 base g f0 f1 f2 := by
  obtain ⟨A1, c1, A2, c2, h0, h1, h2, h3, h4, h5⟩ := h;have st : ∀ {α : Type} {d : Kd α} {e : Nat} {v : Value} {xs : List α}, Kd.R d e W base (fun _ => True) v xs → Kd.R d e W1 base (fun _ => True) v xs := fun hr =>
    Kd.R_mono (Kd.R_step (Kd.R_bound hr) (fun k hk hl => hb k hk.2.1 hl)) (fun _ _ => trivial)
  refine ⟨A1, c1, A2, c2, hg.trans h0, st h1, h2, h3, h4, ?_⟩
  rcases h5 with h5 | ⟨bg, rl, e1, e2, e3, e4, e5⟩
  · exact .inl h5
  obtain ⟨cur, hc, hcc⟩ := e4;exact .inr ⟨bg, rl, e1, e2, e3, ⟨cur, (hb bg e2 (blk_lt hc)).trans hc, hcc⟩, fun j x y hx hy => ⟨(e5 j x y hx hy).1, (e5 j x y hx hy).2.1, (e5 j x y hx hy).2.2.1, st (e5 j x y hx hy).2.2.2⟩⟩
def PlaneG (W : World) (S : Nat → Prop) (g : Nat) (v : Int) (f1 : List S54) (f2 : List S58) : Prop :=
  (∃ base, (∀ k, S k → k < base) ∧ PlaneOwn W base g v f1 f2) ∨ (v = 0 ∧ f1 = [] ∧ f2 = [] ∧ ∃ A1 c1 A2 c2, W.heap[g]? = some (.cells #[.int .i64 0, .slice A1 0 c1, .slice A2 0 c2] 70 (0, 0)))
section
variable {W W1 : World} {S : Nat → Prop} {g : Nat} {v : Int} {f1 : List S54} {f2 : List S58}
theorem PlaneG.at_ (h : PlaneG W S g v f1 f2) : PlaneAt W g v f1 f2 := by
  rcases h with ⟨base, _, h⟩ | ⟨rfl, rfl, rfl, A1, c1, A2, c2, h⟩
  · exact h.at_
  exact ⟨A1, c1, A2, c2, h, ⟨rfl, by simp, fun h => absurd h (Nat.lt_irrefl 0)⟩, Nat.zero_le _, ⟨rfl, by simp, fun h => absurd h (Nat.lt_irrefl 0)⟩, Nat.zero_le _⟩
theorem PlaneG.blk (h : PlaneG W S g v f1 f2) : ∃ cs, W.heap[g]? = some (.cells cs 70 (0, 0)) := by
  obtain ⟨_, _, _, _, h0, _⟩ := h.at_;exact ⟨_, h0⟩
theorem PlaneG.keep (h : PlaneG W S g v f1 f2) (hk : KeepW W W1 S) (hg : ¬ S g) : PlaneG W1 S g v f1 f2 := by
  obtain ⟨cs, hb⟩ := h.blk;have he : W1.heap[g]? = W.heap[g]? := hk.block g (blk_lt hb) hg
  rcases h with ⟨base, hs, h⟩ | ⟨rfl, rfl, rfl, A1, c1, A2, c2, h⟩
  · exact .inl ⟨base, hs, h.agree he (fun k hk1 hk2 => hk.block k hk2 (fun hS => by have := hs k hS; omega))⟩
  exact .inr ⟨rfl, rfl, rfl, A1, c1, A2, c2, he.trans h⟩
theorem PlaneG.below (h : PlaneG W S g v f1 f2) (hb : Below W.heap.size W W1) : PlaneG W1 S g v f1 f2 := by
  rcases h with ⟨base, hs, h⟩ | ⟨rfl, rfl, rfl, A1, c1, A2, c2, h⟩
  · exact .inl ⟨base, hs, h.below hb⟩
  exact .inr ⟨rfl, rfl, rfl, A1, c1, A2, c2, blk_below h hb⟩
theorem PlaneG.drew (h : PlaneG W S g v f1 f2) : PlaneG W.drew S g v f1 f2 := h.below (below_drew1 (Below.refl _ _))
theorem PlaneAt.drew (h : PlaneAt W g v f1 f2) : PlaneAt W.drew g v f1 f2 := h.below (below_drew1 (Below.refl _ _))
theorem PlaneG.first (h : PlaneAt W g 0 [] []) : PlaneG W S g 0 [] [] := by
  obtain ⟨A1, c1, A2, c2, h, _⟩ := h;exact .inr ⟨rfl, rfl, rfl, A1, c1, A2, c2, h⟩
end
def St4 (gs bp br bc : Nat) (k : Nat) : Prop := k = gs ∨ k = bp ∨ k = br ∨ k = bc
section
variable {W W' : World} {gs bp br bc gp : Nat} {v : Int} {DP DR DC : DataW Value} {base : Nat} {f : List UInt8 → List S62} {g : PK → ByteArray} {cs : Array Value} {t : TypeId} {z : Nat × Nat}
theorem StAt.lt4 (h : StAt W gs bp br bc v DP DR DC) : ∀ k, St4 gs bp br bc k → k < W.heap.size := by
  rintro k (rfl | rfl | rfl | rfl)
  · exact blk_lt h.own
  · exact h.mp.lt
  · exact h.mr.lt
  exact h.mc.lt
theorem StAt.not4 (h : StAt W gs bp br bc v DP DR DC) (hq : W.heap[gp]? = some (.cells cs t z)) (ht : 68 ≠ t) : ¬ St4 gs bp br bc gp := by
  rintro (e | e | e | e)
  · exact blk_ne h.own hq ht e.symm
  · exact map_ne h.mp hq e.symm
  · exact map_ne h.mr hq e.symm
  exact map_ne h.mc hq e.symm
theorem StC.move (h : StC W base DP DR DC f g) (hm : ∀ k, k < W.heap.size → k ≠ gp → W'.heap[k]? = W.heap[k]?) (hq : W.heap[gp]? = some (.cells cs t z)) (ht : 62 ≠ t) : StC W' base DP DR DC f g := by
  refine ⟨fun n hn => ?_, h.routes, h.clients⟩;obtain ⟨x, h1, h2⟩ := h.pools n hn;refine ⟨x, h1, Kd.R_mono (Kd.R_move (Kd.R_bound h2) (fun k hk2 => hm k hk2.2.2.1 ?_)) (fun _ hk => hk.1)⟩;rintro rfl;obtain ⟨_, _, _, p, hp, cells, hc⟩ := hk2
  rcases List.mem_cons.1 hp with rfl | hp
  · exact blk_ne hc hq ht rfl
  cases hp
theorem blk_keep {S : Nat → Prop} (h : W.heap[gp]? = some (.cells cs t z)) (hk : KeepW W W' S) (hs : ¬ S gp) : W'.heap[gp]? = some (.cells cs t z) := (hk.block gp (blk_lt h) hs).trans h
theorem below_keep {w : World} {S : Nat → Prop} (h : Below w.heap.size w W) (hk : KeepW W W' S) (hs : ∀ k, S k → w.heap.size ≤ k) : Below w.heap.size w W' :=
  ⟨hk.os.trans h.os, hk.tape.trans h.tape, hk.output.trans h.output, Nat.le_trans h.size hk.size, fun k hl => (hk.block k (Nat.lt_of_lt_of_le hl h.size) (fun e => by have := hs k e; omega)).trans (h.block k hl)⟩
end
theorem has_nil (k : Lit) : has (.map [] : DataW Value) k = false := rfl
theorem stc_nil (W : World) (base : Nat) : StC W base (.map []) (.map []) (.map []) (fun _ => []) (fun _ => ⟨#[]⟩) :=
  ⟨fun n hn => (by rw [has_nil] at hn; cases hn), fun x hx => (by rw [has_nil] at hx; cases hx), fun k hk => (by rw [has_nil] at hk; cases hk)⟩
theorem stp_nil : StP (.map []) (.map []) (fun _ => []) (fun _ => ⟨#[]⟩) :=
  ⟨fun n hn => (by rw [has_nil] at hn; cases hn), fun x hx => (by rw [has_nil] at hx; cases hx), Nat.zero_le _, Nat.zero_le _⟩
theorem pools_nil (f : List UInt8 → List S62) : poolsL (.map []) f = [] := by simp [poolsL, namesOf, strKeys]
theorem keys_nil : KeysP (.map []) [] := ⟨List.nodup_nil, fun x => by rw [has_nil]; simp, List.Pairwise.nil⟩
theorem pools_is {W : World} {gs bp br bc : Nat} {v : Int} {DP DR DC : DataW Value} {f : List UInt8 → List S62} {g : PK → ByteArray} {ts : List PK} (h : StAt W gs bp br bc v DP DR DC) (hp : StP DP DR f g) (hk : KeysP DR ts) (hl : ts.length ≤ Maps.size DR) :
    ((routesL ts g).length ≤ 200 ∧ (poolsL DP f).length ≤ 200) ∧ (∀ p ∈ poolsL DP f, p.f1.length ≤ 200) ∧ (∀ p ∈ poolsL DP f, ∀ y ∈ p.f1, y.f1 < 18446744073709551616) ∧ ∀ r ∈ routesL ts g, ∃ x ∈ poolsL DP f, x.f0 = r.f2 := by
  refine ⟨⟨?_, ?_⟩, fun p hm => ?_, fun p hm y hy => ?_, fun r hr => ?_⟩
  · have := hp.nr;simp only [routesL, List.length_map];omega
  · have := hp.np;simp only [poolsL, List.length_map, names_length h.mp];omega
  · obtain ⟨n, hn, rfl⟩ := List.mem_map.1 hm;have := (hp.names n ((mem_names h.mp).1 hn)).2.1
    show (f n).length ≤ 200
    omega
  · obtain ⟨n, hn, rfl⟩ := List.mem_map.1 hm;exact ((hp.names n ((mem_names h.mp).1 hn)).2.2 y hy).2
  obtain ⟨x, hx, rfl⟩ := List.mem_map.1 hr;have := (hp.places x ((hk.2.1 x).1 hx)).2.2.2;exact ⟨_, List.mem_map.2 ⟨_, (mem_names h.mp).2 this, rfl⟩, by simp [ofB]⟩
theorem at_cmd {w : World} {A : Option Addr} {xs : List S35} (h : Kd.C k35 w A xs.length xs) {i : Nat} {x : S35} (hx : xs[i]? = some x) :
    ∃ ad B d, A = some ad ∧ (∀ (j : Nat) (u : Value), ([.int .i64 x.f0, .int .i64 x.f1, .int .i64 x.f2, .int .i64 x.f3, .string x.f4, .string x.f5, .string x.f6, .slice B x.f7.length d] : List Value)[j]? = some u → w.cell? (ad.add (i * 8 + j)) = some u) ∧ x.f7.length ≤ d ∧ Kd.C k62 w B x.f7.length x.f7 := by
  have hi : i < xs.length := (List.getElem?_eq_some_iff.1 hx).1;obtain ⟨ad, hA, hc⟩ := h.2.2 zO;obtain ⟨c, _, hK, hcell⟩ := hc i x hx;obtain ⟨B, d, rfl, l1, g1⟩ := k35_open hK;exact ⟨ad, B, d, hA, hcell, l1, g1⟩
theorem at_pool {w : World} {A : Option Addr} {xs : List S58} (h : Kd.C k58 w A xs.length xs) {i : Nat} (hi : i < xs.length) :
    ∃ ad B d, A = some ad ∧ w.cell? (ad.add (i * 2)) = some (.string (rd_T58 xs (i : Int)).f0) ∧ w.cell? ⟨(ad.add (i * 2)).block, (ad.add (i * 2)).off + 1, none⟩ = some (.slice B (rd_T58 xs (i : Int)).f1.length d) ∧ (rd_T58 xs (i : Int)).f1.length ≤ d ∧ Kd.C k62 w B (rd_T58 xs (i : Int)).f1.length (rd_T58 xs (i : Int)).f1 := by
  obtain ⟨ad, hA, hc⟩ := h.2.2 zO;obtain ⟨c, _, hK, hcell⟩ := hc i _ (idx_rd xs i hi);generalize rd_T58 xs (i : Int) = x at hK hcell ⊢;obtain ⟨B, d, rfl, l1, g1⟩ := k58_open hK;have hq : ∀ j u, ([.string x.f0, .slice B x.f1.length d] : List Value)[j]? = some u → w.cell? (ad.add (i * 2 + j)) = some u := hcell;exact ⟨ad, B, d, hA, hq 0 _ rfl, by rw [← add_field _ _ 1 zO]; exact hq 1 _ rfl, l1, g1⟩
theorem at_tgt {w : World} {A : Option Addr} {xs : List S62} (h : Kd.C k62 w A xs.length xs) {i : Nat} (hi : i < xs.length) :
    ∃ ad, A = some ad ∧ w.cell? (ad.add (i * 2)) = some (.string (rd_T62 xs (i : Int)).f0) := by
  obtain ⟨ad, hA, hc⟩ := h.2.2 zO;have hx : xs[i]? = some (rd_T62 xs (i : Int)) := by
    unfold rd_T62;simp [List.getD_eq_getElem?_getD, zr hi]
  obtain ⟨c, _, hK, hcell⟩ := hc i _ hx;generalize rd_T62 xs (i : Int) = x at hK hcell ⊢;obtain rfl := k62_open hK;exact ⟨ad, hA, hcell 0 _ rfl⟩
theorem beq_ne_of {a b : ByteArray} (h : a ≠ b) : (a.toList == b.toList) = false := by
  refine beq_eq_false_iff_ne.2 (fun e => h ?_);rw [ByteArray.toList_eq, ByteArray.toList_eq] at e;exact ByteArray.ext (Array.toList_inj.1 e)
theorem wpList_load_gd {P : Program} {ops : Array Oper} {rest : List Oper} {op : Oper} {a : Act} {w : World} {Q : Exit → Act → World → Prop} (hw : Region.wanted op (yielded ops a.tmps) = true) (ty : TypeId) (x : Operand) (ho : op.op = .load ty x)
    (p : Addr) (hx : a.eval x = .pointer (some p)) (cs : List Value) (d : TypeDesc) (hc : ∀ j v, cs[j]? = some v → w.cell? (p.add j) = some v)
    (hu : P.underlying ty = some d) (hd : d.isRow = true) (hi : (P.info? ty).map (·.size) = some cs.length)
    (h : wpList P ops Q rest (a.put op.dst (.agg cs.toArray)) w) : wpList P ops Q (op :: rest) a w :=
  wpList_step fun K hK => by
    rw [zp hw];exact wp_load_any ty x ho p hx cs d hc hu hd hi (hK _ _ h)
theorem few_is (a0 a1 a2 a3 : Int) (h p o : ByteArray) (l : List S62) : tollgatetop_few.f a0 a1 a2 a3 h p o l = some false ∨ (tollgatetop_few.f a0 a1 a2 a3 h p o l = some true ∧ l.length ≤ 100) := by
  unfold tollgatetop_few.f;by_cases hl : (l.length : Int) ≤ 100
  · rw [zp hl];cases hd : decide (wrap64 (wrap64 ((h.size : Int) + (p.size : Int)) + (o.size : Int)) ≤ 2000)
    · exact .inl rfl
    exact .inr ⟨rfl, zO⟩
  rw [zn hl];exact .inl rfl
theorem field_res (a b : Int) (w : World) : (Instr.field 38 (.agg #[.int .i64 a, .int .i64 b]) 0).run Tryz.prog w = .ok (.int .i64 a) w := by kernel_rfl
theorem eqReply (d : Nat) (w : World) (x0 y0 x1 y1 : Int) (x2 y2 x3 y3 : ByteArray) :
    (Op.equalIn (d + 2) 50 (.agg #[.int .i64 x0, .int .i64 x1, .string x2, .string x3]) (.agg #[.int .i64 y0, .int .i64 y1, .string y2, .string y3])).run Tryz.prog w = .ok (x0 == y0 && (x1 == y1 && (x2.toList == y2.toList && (x3.toList == y3.toList)))) w := by
  refine eqA_of Tryz.underlying50 zQ ?_;refine eqf_cons (by rfl) (by go_simp; rfl) (by go_simp; rfl) (by go_simp) ?_;refine eqf_cons (by rfl) (by go_simp; rfl) (by go_simp; rfl) (by go_simp) ?_;refine eqf_cons (by rfl) (by go_simp; rfl) (by go_simp; rfl) (by go_simp) ?_;exact eqf_last (by rfl) (by go_simp; rfl) (by go_simp; rfl) (by go_simp)
end Go.Proofs.YtpigfccpogmeaaaGreatDoor.S
end
section
namespace Go.Proofs.YtpigfccpogmeaaaGreatDoor.S
open Go.RowKit Go.Maps Go.Proofs.YtpigfccpogmeaaaGreatDoorW.PrintWords Go.Proofs.YtpigfccpogmeaaaGreatDoorW.PrintLast Go.Proofs.YtpigfccpogmeaaaGreatDoorW.PrintMore
set_option linter.unusedVariables false
set_option linter.unusedSimpArgs false
attribute [local go_sem high] eqReply field_res
noncomputable def gate_T11 : Bool × List (List Nat × List Nat) := rtab .any (opsOf Tryz.f3 11)
theorem gate_T11_is : rtab .any (opsOf Tryz.f3 11) = gate_T11 := rfl
noncomputable def gate_T25 : Bool × List (List Nat × List Nat) := rtab .any (opsOf Tryz.f3 25)
theorem gate_T25_is : rtab .any (opsOf Tryz.f3 25) = gate_T25 := rfl

set_option maxHeartbeats 16000000 in
set_option maxRecDepth 100000 in
theorem tollgatetop_TopGate.hand (A0 : Option Addr) (c0 : Nat) (l : List S35) (sm sp sq sh : ByteArray) (A4 : Option Addr) (c4 : Nat) (fl : List S88) (a2 : Nat) (w : World) (hml : ML w) (hr0 : Kd.C k35 w A0 l.length l) (hc0 : l.length ≤ c0) (hr4 : Kd.C k88 w A4 fl.length fl) (hc4 : fl.length ≤ c4)
    (hok : ∀ x ∈ l, x.f4.size ≤ 1048576 ∧ x.f5.size ≤ 1048576 ∧ x.f6.size ≤ 1048576 ∧ (∀ t ∈ x.f7, TgOk t) ∧ (Lit.int .i64 x.f1).wf = true)
    (hg : ∀ (v : Int) (f1 : List S54) (f2 : List S58), f1.length ≤ 200 → f2.length ≤ 200 → (∀ p ∈ f2, p.f1.length ≤ 200) → (∀ p ∈ f2, ∀ y ∈ p.f1, y.f1 < 18446744073709551616) → (∀ r ∈ f1, ∃ x ∈ f2, x.f0 = r.f2) → PP.GateLaw v f1 f2 sm sp sq sh fl a2) :
    Calls Tryz.prog 3 #[.slice A0 l.length c0, .agg #[.string sm, .string sp, .string sq, .string sh, .slice A4 fl.length c4], .float .f64 a2] w fun e w' => e = .returned (.bool true) ∧ Below w.heap.size w w' := by
  have HML := zN hml;have HR0 := zN hr0;have HC0 := zN hc0;have HR4 := zN hr4;have HC4 := zN hc4;have HOK := zN hok;have HGL := zN hg;clear hml hr0 hc0 hr4 hc4 hok hg;have HB := zN (Below.refl w.heap.size w);have huS := Tryz.underlying68;have huCm := Tryz.underlying35;have huCf := Tryz.underlying44;have huH := Tryz.underlying25;have huR := Tryz.underlying50;have huRt := Tryz.underlying54;have huPo := Tryz.underlying58;have huT := Tryz.underlying62;have huRes := Tryz.underlying38;go_enter Tryz.func3, Tryz.ntmps3;go_upto_region 3 with (first | ((with_reducible refine gate_dst (N := 4) rfl ?_); refine zX #[.string sm, .string sp, .string sq, .string sh, .slice A4 fl.length c4] 25 rfl ?_; intro gh hg w1 hbox hb; have HH := zN hbox; have GH := zN (Nat.le_of_eq hg.symm); replace HB := zN (below_step HB.out hb); clear hb hbox hg) | (go_at_call 4; refine (confNew_ok _).mono ?_; rintro e w2 ⟨gs, bp, br, bc, rfl, hgs, hbp, hbr, hbc, hd, hst, hb⟩; have HS := zN hst; have HD := zN hd; have HLO := zN (And.intro (Nat.le_trans HB.out.size hgs) (And.intro (Nat.le_trans HB.out.size hbp) (And.intro (Nat.le_trans HB.out.size hbr) (Nat.le_trans HB.out.size hbc)))); replace HB := zN (below_step HB.out hb); replace HH := zN (blk_below HH.out hb); clear hb; clear hst hd hgs hbp hbr hbc) | (go_at_call 5; refine (new_ok _).mono ?_; rintro e w3 ⟨gp, rfl, hgp, hpl, hb⟩; have PL := zN (PlaneG.first (S := St4 gs bp br bc) hpl); have GP := zN (Nat.le_trans HB.out.size hgp); replace HB := zN (below_step HB.out hb); replace HH := zN (blk_below HH.out hb); replace HS := zN (HS.out.below hb); clear hb; clear hpl hgp))
  go_wp2;go_loopg [9] 101 (fun n v9 wr => ∃ (i : Nat) (v : Int) (DP DR DC : DataW Value) (f : List UInt8 → List S62) (g : PK → ByteArray) (ts : List PK), v9 = .int .i64 (i : Int) ∧ Aside0 (i + n = 101 ∧ i ≤ 100 ∧ i ≤ l.length ∧ 0 ≤ v ∧ v ≤ i ∧ Maps.size DC ≤ i) ∧ Aside0 (StP DP DR f g) ∧ Aside0 (KeysP DR ts ∧ ts.length ≤ Maps.size DR) ∧ Aside0 (StAt wr gs bp br bc v DP DR DC) ∧ Aside0 (StC wr w.heap.size DP DR DC f g) ∧ Aside0 (PlaneG wr (St4 gs bp br bc) gp v (routesL ts g) (poolsL DP f)) ∧ Aside0 (wr.heap[gh]? = some (.cells #[.string sm, .string sp, .string sq, .string sh, .slice A4 fl.length c4] 25 (0, 0))) ∧ Aside0 (Below w.heap.size w wr))
  case atStart => exact ⟨0, 0, .map [], .map [], .map [], _, _, [], rfl, ⟨zO, zO, Nat.zero_le _, zO, zO, Nat.zero_le _⟩, ⟨stp_nil⟩, ⟨keys_nil, Nat.zero_le _⟩, HS, ⟨stc_nil _ _⟩, ⟨by rw [pools_nil]; exact PL.out⟩, HH, HB⟩
  case round =>
    clear HS PL HH HB;obtain ⟨i, v, DP, DR, DC, f, g, ts, rfl, HN, HP, HK, HS, HC, PL, HH, HB⟩ := hrel;by_cases hi : i < l.length ∧ i < 100
    · obtain ⟨hi, hi2⟩ := hi;have t1 : decide ((i : Int) < (l.length : Int)) = true := zt zO;have t1n : decide (i < l.length) = true := zt hi;have t2 : decide ((i : Int) < 100) = true := zt zO;have t2n : decide (i < 100) = true := zt hi2;obtain ⟨x, hx⟩ : ∃ x, l[i]? = some x := ⟨_, zr hi⟩;obtain ⟨ad, B7, d7, hA, hcc, hl7, hc7⟩ := at_cmd HR0.out hx;subst hA;have HX := zN (HOK.out x (List.mem_of_getElem? hx));have HCC := zN hcc;have HL7 := zN hl7;have HC7 := zN hc7;have HI := zN (And.intro hi hi2);have p1 := zu (show (0 : Int) ≤ (i : Int) by omega);have q1 := zu (show (i : Int) < (l.length : Int) by omega);have q1n := zu hi;clear hx hcc hl7 hc7 hi hi2;obtain ⟨i', hi'⟩ : ∃ i' : Nat, i' = i + 1 := ⟨_, rfl⟩;have hw : wrap64 ((i : Int) + 1) = (i' : Int) := by have := HI.out; subst hi'; unfold wrap64; omega
      have HI' := zN hi';clear hi'
      rcases few_is x.f0 x.f1 x.f2 x.f3 x.f4 x.f5 x.f6 x.f7 with hf | ⟨hf, hf7⟩
      · have HFW := zN hf;clear hf;go_wp2_with (first | ((with_reducible refine gate_dst (N := 34) rfl ?_); refine wpList_load_any rfl 35 (.tmp 33) rfl (ad.add (i * 8)) rfl [.int .i64 x.f0, .int .i64 x.f1, .int .i64 x.f2, .int .i64 x.f3, .string x.f4, .string x.f5, .string x.f6, .slice B7 x.f7.length d7] _ (fun j v hv => by rw [add_add]; exact (HB.out.cell (zw w _ (HCC.out j v hv))).trans (HCC.out j v hv)) huCm rfl zQ ?_; simp only [Act.put, List.setIfInBounds_toArray, List.set_cons_zero, List.set_cons_succ]) | (go_at_call 6; refine (tollgatetop_few.calls x.f0 x.f1 x.f2 x.f3 x.f4 x.f5 x.f6 B7 d7 x.f7 _ _ (Kd.C_below HC7.out HB.out) HL7.out HFW.out).mono ?_; rintro e w4 ⟨rfl, hb⟩; replace HS := zN (HS.out.below hb); replace HC := zN (HC.out.below hb); replace PL := zN (PL.out.below hb); replace HH := zN (blk_below HH.out hb); replace HB := zN (below_step HB.out hb); clear hb));go_roundg (101 - i')
        case measure => have := HI.out; have := HN.out; have := HI'.out; omega
        case rel => exact ⟨i', _, _, _, _, _, _, _, (by first | rfl | rw [hw]), ⟨by have := HI.out; have := HN.out; have := HI'.out; omega, by have := HI.out; have := HI'.out; omega, by have := HI.out; have := HI'.out; omega, by have := HN.out; omega, by have := HN.out; have := HI'.out; omega, by have := HN.out; have := HI'.out; omega⟩, HP, HK, HS, HC, PL, HH, HB⟩
      have HFW := zN hf;have HF7 := zN hf7;clear hf hf7;go_upto_if 45 with (first | ((with_reducible refine gate_dst (N := 34) rfl ?_); refine wpList_load_any rfl 35 (.tmp 33) rfl (ad.add (i * 8)) rfl [.int .i64 x.f0, .int .i64 x.f1, .int .i64 x.f2, .int .i64 x.f3, .string x.f4, .string x.f5, .string x.f6, .slice B7 x.f7.length d7] _ (fun j v hv => by rw [add_add]; exact (HB.out.cell (zw w _ (HCC.out j v hv))).trans (HCC.out j v hv)) huCm rfl zQ ?_; simp only [Act.put, List.setIfInBounds_toArray, List.set_cons_zero, List.set_cons_succ]) | ((with_reducible refine gate_dst (N := 41) rfl ?_); refine wpList_load_gd (by rfl) 35 (.tmp 40) rfl (ad.add (i * 8)) rfl [.int .i64 x.f0, .int .i64 x.f1, .int .i64 x.f2, .int .i64 x.f3, .string x.f4, .string x.f5, .string x.f6, .slice B7 x.f7.length d7] _ (fun j v hv => by rw [add_add]; exact (HB.out.cell (zw w _ (HCC.out j v hv))).trans (HCC.out j v hv)) huCm rfl zQ ?_; simp only [Act.put, List.setIfInBounds_toArray, List.set_cons_zero, List.set_cons_succ]) | (go_at_call 6; refine (tollgatetop_few.calls x.f0 x.f1 x.f2 x.f3 x.f4 x.f5 x.f6 B7 d7 x.f7 _ _ (Kd.C_below HC7.out HB.out) HL7.out HFW.out).mono ?_; rintro e w4 ⟨rfl, hb⟩; replace HS := zN (HS.out.below hb); replace HC := zN (HC.out.below hb); replace PL := zN (PL.out.below hb); replace HH := zN (blk_below HH.out hb); replace HB := zN (below_step HB.out hb); clear hb) | (go_at_call 7; refine (do_ok HS.out HC.out HP.out HD.out HB.out.size (by have := HN.out; omega) (by have := HN.out; omega) x.f0 x.f1 x.f2 x.f3 x.f4 x.f5 x.f6 B7 d7 x.f7 (Kd.C_below HC7.out HB.out) HL7.out HF7.out HX.out.2.2.2.1 ⟨HX.out.1, HX.out.2.1, HX.out.2.2.1⟩ HX.out.2.2.2.2).mono ?_; rintro e w5 ⟨E, V, rfl, hk, v', DP', DR', DC', f', g', hst, hsc, hsp, hdc, hcase⟩; have HCASE := zN hcase; have HSP := zN hsp; have HDC := zN hdc; replace HC := zN hsc; replace PL := zN (PL.out.keep (S := St4 gs bp br bc) hk (HS.out.not4 PL.out.blk.choose_spec (by decide))); replace HH := zN (blk_keep HH.out hk (HS.out.not4 HH.out (by decide))); replace HS := zN hst; replace HB := zN (below_keep HB.out hk (by rintro k (rfl | rfl | rfl | rfl); exact HLO.out.1; exact HLO.out.2.1; exact HLO.out.2.2.1; exact HLO.out.2.2.2)); clear hst hsc hsp hdc hcase hk))
      by_cases hE : E = 0;rotate_left
      · have b1 : (E == 0) = false := by simpa using hE
        have b2 : decide (E = 0) = false := zf hE
        rcases HCASE.out with ⟨h1, h2, h3, h4, h5⟩ | ⟨h1, _⟩
        rotate_left
        · exact absurd h1 hE
        subst h1;subst h2;subst h3;subst h4;subst h5;clear hE;go_wp2;go_roundg (101 - i')
        case measure => have := HI.out; have := HN.out; have := HI'.out; omega
        case rel => exact ⟨i', _, _, _, _, _, _, _, (by first | rfl | rw [hw]), ⟨by have := HI.out; have := HN.out; have := HI'.out; omega, by have := HI.out; have := HI'.out; omega, by have := HI.out; have := HI'.out; omega, by have := HN.out; omega, by have := HN.out; have := HI'.out; omega, by have := HN.out; have := HI'.out; have := HDC.out; omega⟩, HSP, HK, HS, HC, PL, HH, HB⟩
      have b1 : (E == 0) = true := by simpa using hE
      have b2 : decide (E = 0) = true := zt hE;have HE := zN hE;clear hE
      rcases HCASE.out with ⟨h1, h2, h3, h4, h5⟩ | ⟨_, h1⟩
      · subst h1;subst h2;subst h3;subst h4;subst h5;go_wp2_with (first | (go_at_call 9; refine (storeConfig_ok HS.out HC.out HSP.out).mono ?_; rintro e w6 ⟨A1, c1, A2, c2, ts', rfl, hk1, hq1, hl1, hq2, hl2, hb⟩; have HK1 := zN hk1; have HQ1 := zN hq1; have HQ2 := zN hq2; have HL1 := zN hl1; have HL2 := zN hl2; clear hk1 hq1 hq2 hl1 hl2; replace HS := zN (HS.out.below hb); replace HC := zN (HC.out.below hb); replace PL := zN (PL.out.below hb); replace HH := zN (blk_below HH.out hb); replace HB := zN (below_step HB.out hb); clear hb) | (go_at_call 8; refine (apply_stale PL.out.at_ _ _ _ rfl rfl (Int.le_refl _)).mono ?_; rintro e w7 ⟨rfl, hb⟩; replace HS := zN (HS.out.below hb); replace HC := zN (HC.out.below hb); replace PL := zN (PL.out.below hb); replace HH := zN (blk_below HH.out hb); replace HB := zN (below_step HB.out hb); clear hb));go_roundg (101 - i')
        case measure => have := HI.out; have := HN.out; have := HI'.out; omega
        case rel => exact ⟨i', _, _, _, _, _, _, _, (by first | rfl | rw [hw]), ⟨by have := HI.out; have := HN.out; have := HI'.out; omega, by have := HI.out; have := HI'.out; omega, by have := HI.out; have := HI'.out; omega, by have := HN.out; omega, by have := HN.out; have := HI'.out; omega, by have := HN.out; have := HI'.out; have := HDC.out; omega⟩, HSP, HK, HS, HC, PL, HH, HB⟩
      subst h1;go_wp2_with (first | (go_at_call 9; refine (storeConfig_ok HS.out HC.out HSP.out).mono ?_; rintro e w6 ⟨A1, c1, A2, c2, ts', rfl, hk1, hq1, hl1, hq2, hl2, hb⟩; have HK1 := zN hk1; have HQ1 := zN hq1; have HQ2 := zN hq2; have HL1 := zN hl1; have HL2 := zN hl2; clear hk1 hq1 hq2 hl1 hl2; replace HS := zN (HS.out.below hb); replace HC := zN (HC.out.below hb); replace PL := zN (PL.out.below hb); replace HH := zN (blk_below HH.out hb); replace HB := zN (below_step HB.out hb); clear hb) | (go_at_call 8; have hz := pools_is HS.out HSP.out HK1.out.1 HK1.out.2; refine (apply_ok PL.out.at_ _ A1 c1 _ A2 c2 _ HQ1.out HL1.out HQ2.out HL2.out (by have := hz.1.1; omega) (by have := hz.1.2; omega) (fun x hx => by have := hz.2.1 x hx; omega) zO).mono ?_; rintro e w7 ⟨rfl, hpo, hbl, hsame, _⟩; have n0_ := zN (HS.out.move hsame PL.out.blk.choose_spec (by decide)); have n1_ := zN (HC.out.move hsame PL.out.blk.choose_spec (by decide)); have n2_ := zN (show PlaneG _ (St4 gs bp br bc) gp _ _ _ from .inl ⟨_, HS.out.lt4, hpo⟩); have n3_ := zN ((hsame gh (blk_lt HH.out) (blk_ne HH.out PL.out.blk.choose_spec (by decide))).trans HH.out); have n4_ := zN (HB.out.trans (hbl _ GP.out HB.out.size)); clear HS HC PL HH HB hpo hbl hsame hz; have HS := n0_; have HC := n1_; have PL := n2_; have HH := n3_; have HB := n4_; clear n0_ n1_ n2_ n3_ n4_));go_roundg (101 - i')
      case measure => have := HI.out; have := HN.out; have := HI'.out; omega
      case rel => exact ⟨i', _, _, _, _, _, _, _, (by first | rfl | rw [hw]), ⟨by have := HI.out; have := HN.out; have := HI'.out; omega, by have := HI.out; have := HI'.out; omega, by have := HI.out; have := HI'.out; omega, by have := HN.out; omega, by have := HN.out; have := HI'.out; omega, by have := HN.out; have := HI'.out; have := HDC.out; omega⟩, HSP, HK1, HS, HC, PL, HH, HB⟩
    go_upto_region 4 with (fail)
    go_cut [28] (fun v28 wc => v28 = .bool false ∧ Aside0 (StAt wc gs bp br bc v DP DR DC) ∧ Aside0 (StC wc w.heap.size DP DR DC f g) ∧ Aside0 (PlaneG wc (St4 gs bp br bc) gp v (routesL ts g) (poolsL DP f)) ∧ Aside0 (wc.heap[gh]? = some (.cells #[.string sm, .string sp, .string sq, .string sh, .slice A4 fl.length c4] 25 (0, 0))) ∧ Aside0 (Below w.heap.size w wc))
    case first =>
      by_cases hi1 : i < l.length
      · have t1 : decide ((i : Int) < (l.length : Int)) = true := zt zO;have t1n : decide (i < l.length) = true := zt hi1;have t2 : decide ((i : Int) < 100) = false := zf zO;have t2n : decide (i < 100) = false := zf zO;clear hi hi1;go_wp2;go_meet;exact ⟨rfl, HS, HC, PL, HH, HB⟩
      have t1 : decide ((i : Int) < (l.length : Int)) = false := zf zO;have t1n : decide (i < l.length) = false := zf hi1;clear hi hi1;go_wp2;go_meet;exact ⟨rfl, HS, HC, PL, HH, HB⟩
    case rest =>
      clear HS HC PL HH HB hi;obtain ⟨rfl, HS, HC, PL, HH, HB⟩ := hcut;go_upto_region 9 with ((go_at_call 9; refine (storeConfig_ok HS.out HC.out HP.out).mono ?_; rintro e w6 ⟨A1, c1, A2, c2, ts', rfl, hk1, hq1, hl1, hq2, hl2, hb⟩; obtain rfl := KeysP.unique HK.out.1 hk1.1; have HQ1 := zN hq1; have HQ2 := zN hq2; have HL1 := zN hl1; have HL2 := zN hl2; clear hk1 hq1 hq2 hl1 hl2; replace HS := zN (HS.out.below hb); replace HC := zN (HC.out.below hb); replace PL := zN (PL.out.below hb); replace HH := zN (blk_below HH.out hb); replace HB := zN (below_step HB.out hb); clear hb))
      have hz := pools_is HS.out HP.out HK.out.1 HK.out.2;obtain ⟨b, er, st, pl, adr, hWr, hSe, hSay⟩ := (HGL.out v _ _ hz.1.1 hz.1.2 hz.2.1 hz.2.2.1 hz.2.2.2).says;have HPA := zN PL.out.at_;have HZ := zN hz.1;clear hz PL HS HC HP HK HN;generalize routesL ts g = f1 at HPA HQ1 HL1 HZ hWr hSe hSay ⊢;generalize poolsL DP f = f2 at HPA HQ2 HL2 HZ hWr hSe hSay ⊢;have HWR := zN hWr;have HSE := zN hSe;have HSAY := zN hSay;clear hWr hSe hSay;have hb := below_alloc (Below.refl w6.heap.size w6) (.cells #[.int .i64 v, .slice A1 f1.length c1, .slice A2 f2.length c2] 44);have GC := zN (blk_new w6 (.cells #[.int .i64 v, .slice A1 f1.length c1, .slice A2 f2.length c2] 44));replace HPA := zN (HPA.out.below hb);replace HH := zN (blk_below HH.out hb);replace HB := zN (below_step HB.out hb);replace HQ1 := zN (Kd.C_below HQ1.out hb);replace HQ2 := zN (Kd.C_below HQ2.out hb);generalize w6.heap.size = gc at hb GC ⊢;generalize w6.alloc (.cells #[.int .i64 v, .slice A1 f1.length c1, .slice A2 f2.length c2] 44) = w8 at hb HPA HH HB HQ1 HQ2 GC ⊢;clear hb;go_upto_region 10 with (first | ((with_reducible refine gate_dst (N := 53) rfl ?_); refine wpList_load_any rfl 25 (.tmp 4) rfl ⟨gh, 0, none⟩ rfl [.string sm, .string sp, .string sq, .string sh, .slice A4 fl.length c4] _ (blk_cells HH.out) huH rfl zQ ?_; simp only [Act.put, List.setIfInBounds_toArray, List.set_cons_zero, List.set_cons_succ]) | (go_at_call 10; refine (head_Write.calls HWR.out.choose sm sp sq sh A4 c4 fl b er _ (ML.keep HML.out HB.out) (Kd.C_below HR4.out HB.out) HC4.out (HWR.out.choose_spec _ (zh _))).mono ?_; rintro e w9 ⟨vb, rfl, hV, hb⟩; obtain ⟨Ab, cb, rfl, hlb, hfb⟩ := hV; have HBB := zN (Kd.F_now hfb); have HLB := zN hlb; clear hfb hlb; replace HPA := zN (HPA.out.below hb); replace HH := zN (blk_below HH.out hb); replace HB := zN (below_step HB.out hb); replace HQ1 := zN (Kd.C_below HQ1.out hb); replace HQ2 := zN (Kd.C_below HQ2.out hb); replace GC := zN (blk_below GC.out hb); clear hb))
      go_upto_region 11 with ((go_at_call 11; refine (plane_Serve.calls HSE.out.choose HPA.out (ML.keep HML.out HB.out) Ab cb b a2 HBB.out HLB.out (HSE.out.choose_spec _ (zh _))).mono ?_; rintro e w10 ⟨rfl, hb⟩; replace HPA := zN (HPA.out.below hb); replace HH := zN (blk_below HH.out hb); replace HB := zN (below_step HB.out hb); replace HQ1 := zN (Kd.C_below HQ1.out hb); replace HQ2 := zN (Kd.C_below HQ2.out hb); replace GC := zN (blk_below GC.out hb); replace HBB := zN (Kd.C_below HBB.out hb); clear hb))
      have hb := below_alloc (Below.refl w10.heap.size w10) (.cells #[.int .i64 st, .int .i64 v, .string pl, .string adr] 50);have GR := zN (blk_new w10 (.cells #[.int .i64 st, .int .i64 v, .string pl, .string adr] 50));replace HPA := zN (HPA.out.below hb);replace HH := zN (blk_below HH.out hb);replace HB := zN (below_step HB.out hb);replace HQ1 := zN (Kd.C_below HQ1.out hb);replace HQ2 := zN (Kd.C_below HQ2.out hb);replace GC := zN (blk_below GC.out hb);replace HBB := zN (Kd.C_below HBB.out hb);generalize w10.heap.size = gr at hb GR ⊢;generalize w10.alloc (.cells #[.int .i64 st, .int .i64 v, .string pl, .string adr] 50) = w11 at hb HPA HH HB HQ1 HQ2 GC HBB GR ⊢;clear hb;replace HPA := zN HPA.out.drew;replace HH := zN (blk_drew HH.out);replace HB := zN (below_drew1 HB.out);replace HQ1 := zN (Kd.C_drew HQ1.out);replace HQ2 := zN (Kd.C_drew HQ2.out);replace GC := zN (blk_drew GC.out);replace HBB := zN (Kd.C_drew HBB.out);replace GR := zN (blk_drew GR.out);refine start_ (n := 12) (S := fun w' => w'.cell? ⟨gr, 1, none⟩ = some (.int .i64 v) ∧ w'.cell? ⟨gc, 0, none⟩ = some (.int .i64 v)) (ds := []) #[false, false, false, false, false, false, false, false, false, false, false, false] zQ rfl rfl ⟨(blk_cell GR.out 1).trans rfl, (blk_cell GC.out 0).trans rfl⟩ (fun hHeld => ?_);refine with_tab (T := gate_T11) gate_T11_is (fun HT_ => ?_);generalize w11.drew = wd at HPA HH HB HQ1 HQ2 GC HBB GR hHeld ⊢;refine zU (i := 0) (N := some 61) #[true, false, false, false, false, false, false, false, false, false, false, false] rfl rfl HT_ ?_;refine take_ (i := 1) (N := some 62) (v := ?_) (a' := ?_) #[true, true, false, false, false, false, false, false, false, false, false, false] rfl rfl (take_of HT_.out zQ) (fun _ _ _ h => h) (Or.inl ⟨by rfl, ?_⟩) hHeld ?_ ?_;rotate_left
      · rintro w' ⟨s0, s1⟩;go_simp
        with_reducible rfl
      rotate_left
      · simp only [zP];rfl
      refine zU (i := 2) (N := some 63) #[true, true, true, false, false, false, false, false, false, false, false, false] rfl rfl HT_ ?_;refine take_ (i := 3) (N := some 64) (v := ?_) (a' := ?_) #[true, true, true, true, false, false, false, false, false, false, false, false] rfl rfl (take_of HT_.out zQ) (fun _ _ _ h => h) (Or.inl ⟨by rfl, ?_⟩) hHeld ?_ ?_;rotate_left
      · rintro w' ⟨s0, s1⟩;go_simp
        with_reducible rfl
      rotate_left
      · simp only [zP];rfl
      refine pure_ (i := 4) (N := some 65) (v := .bool false) (a' := ?_) #[true, true, true, true, true, false, false, false, false, false, false, false] rfl rfl (any_of HT_.out zQ) (fun _ _ _ h => h) (Or.inl ⟨by rfl, fun w' => by go_simp <;> first | done | rfl | simp⟩) ?_ ?_;rotate_left
      · simp only [zP];rfl
      refine zU (i := 5) (N := some 66) #[true, true, true, true, true, true, false, false, false, false, false, false] rfl rfl HT_ ?_;refine zU (i := 6) (N := some 67) #[true, true, true, true, true, true, true, false, false, false, false, false] rfl rfl HT_ ?_;refine zU (i := 8) (N := some 69) #[true, true, true, true, true, true, true, false, true, false, false, false] rfl rfl HT_ ?_;refine take_ (i := 9) (N := some 70) (v := ?_) (a' := ?_) #[true, true, true, true, true, true, true, false, true, true, false, false] rfl rfl (take_of HT_.out zQ) (fun _ _ _ h => h) (Or.inl ⟨by rfl, ?_⟩) hHeld ?_ ?_;rotate_left
      · rintro w' ⟨s0, s1⟩;go_simp
        with_reducible rfl
      rotate_left
      · simp only [zP];rfl
      refine one_ (i := 7) (N := some 68) #[true, true, true, true, true, true, true, true, true, true, false, false] rfl rfl (one_of HT_.out zQ) (by decide) (fun K hK => ?_);refine goes_ Tryz.func12 zQ rfl #[.pointer (some ⟨gp, 0, none⟩)] (by rfl) rfl rfl (by (try simp only [List.map_toArray, List.map_cons, List.map_nil]); first | done | rfl) ?_;refine (version_ok HPA.out).mono ?_;rintro e w12 ⟨rfl, hb⟩;refine ⟨_, rfl, ?_⟩;replace HPA := zN (HPA.out.below hb);replace HH := zN (blk_below HH.out hb);replace HB := zN (below_step HB.out hb);replace HQ1 := zN (Kd.C_below HQ1.out hb);replace HQ2 := zN (Kd.C_below HQ2.out hb);replace GC := zN (blk_below GC.out hb);replace HBB := zN (Kd.C_below HBB.out hb);replace GR := zN (blk_below GR.out hb);clear hb;refine hK.out _ _ ⟨(blk_cell GR.out 1).trans rfl, (blk_cell GC.out 0).trans rfl⟩ (fun hHeld => ?_);clear hK K;refine norm_ (a' := ?_) ?_ ?_;rotate_left
      · show Act.put _ (some 68) _ = _
        simp only [zP];rfl
      refine pure_ (i := 10) (N := some 71) (v := .bool false) (a' := ?_) #[true, true, true, true, true, true, true, true, true, true, true, false] rfl rfl (any_of HT_.out zQ) (fun _ _ _ h => h) (Or.inl ⟨by rfl, fun w' => by go_simp <;> first | done | rfl | simp⟩) ?_ ?_;rotate_left
      · simp only [zP];rfl
      refine zU (i := 11) (N := some 72) #[true, true, true, true, true, true, true, true, true, true, true, true] rfl rfl HT_ ?_;refine done_ (done_of HT_.out zQ) ?_;clear HT_;clear hHeld
      rcases HSAY.out with ⟨h1, h2⟩ | ⟨h1, s1, s2, pool, ok, hF, hway⟩
      · have b1 : (er != 0) = true := by simpa using h1
        have b2 : decide (er = 0) = false := zf h1;subst h2;clear h1;have r0 : w12.cell? ⟨gr, 0, none⟩ = some (.int .i64 400) := (blk_cell GR.out 0).trans rfl;go_wp2;go_ret;exact ⟨rfl, HB.out⟩
      subst h1;have HF := zN hF;have HWAY := zN hway;clear hF hway;have h1 : w12.cell? ⟨gh, 1, none⟩ = some (.string sp) := (blk_cell HH.out 1).trans rfl;have h3 : w12.cell? ⟨gh, 3, none⟩ = some (.string sh) := (blk_cell HH.out 3).trans rfl;go_upto_region 16 with (first | ((with_reducible refine gate_dst (N := 79) rfl ?_); refine wpList_load_any rfl 44 (.tmp 10) rfl ⟨gc, 0, none⟩ rfl [.int .i64 v, .slice A1 f1.length c1, .slice A2 f2.length c2] _ (blk_cells GC.out) huCf rfl zQ ?_; simp only [Act.put, List.setIfInBounds_toArray, List.set_cons_zero, List.set_cons_succ]) | (go_at_call 13; refine (plane_Find.calls HF.out.choose v A1 c1 f1 A2 c2 f2 sh sp s1 s2 pool ok _ HQ1.out HL1.out HQ2.out HL2.out (HF.out.choose_spec _ (zh _))).mono ?_; rintro e w13 ⟨rfl, hb⟩; replace HPA := zN (HPA.out.below hb); replace HH := zN (blk_below HH.out hb); replace HB := zN (below_step HB.out hb); replace HQ1 := zN (Kd.C_below HQ1.out hb); replace HQ2 := zN (Kd.C_below HQ2.out hb); replace GC := zN (blk_below GC.out hb); replace HBB := zN (Kd.C_below HBB.out hb); replace GR := zN (blk_below GR.out hb); clear hb))
      clear h1 h3;have hb := below_alloc (Below.refl w13.heap.size w13) (.cells #[.string s1, .string s2, .string pool] 54);have GX := zN (blk_new w13 (.cells #[.string s1, .string s2, .string pool] 54));replace HPA := zN (HPA.out.below hb);replace HH := zN (blk_below HH.out hb);replace HB := zN (below_step HB.out hb);replace HQ1 := zN (Kd.C_below HQ1.out hb);replace HQ2 := zN (Kd.C_below HQ2.out hb);replace GC := zN (blk_below GC.out hb);replace HBB := zN (Kd.C_below HBB.out hb);replace GR := zN (blk_below GR.out hb);generalize w13.heap.size = gx at hb GX ⊢;generalize w13.alloc (.cells #[.string s1, .string s2, .string pool] 54) = w14 at hb HPA HH HB HQ1 HQ2 GC HBB GR GX ⊢;clear hb
      rcases HWAY.out with ⟨rfl, rfl, rfl, rfl⟩ | ⟨rfl, rfl, i2, hi2, hn, hm, hway⟩
      · have c0_ : w14.cell? ⟨gc, 0, none⟩ = some (.int .i64 v) := (blk_cell GC.out 0).trans rfl;go_wp2_with (((with_reducible refine gate_dst (N := 89) rfl ?_); refine wpList_load_any rfl 50 (.tmp 13) rfl ⟨gr, 0, none⟩ rfl [.int .i64 404, .int .i64 v, .string ⟨#[]⟩, .string ⟨#[]⟩] _ (blk_cells GR.out) huR rfl zQ ?_; simp only [Act.put, List.setIfInBounds_toArray, List.set_cons_zero, List.set_cons_succ]));go_ret;exact ⟨by simp, HB.out⟩
      have HI2 := zN hi2;have HNM := zN hn;have HMM := zN hm;have HWY := zN hway;clear hi2 hn hm hway;go_wp2;go_loopg [16] f2.length (fun n v16 wr => ∃ j : Nat, v16 = .int .i64 (j : Int) ∧ Aside0 (j + n = f2.length ∧ j ≤ i2) ∧ Aside0 (Below w.heap.size w wr) ∧ Aside0 (Kd.C k58 wr A2 f2.length f2) ∧ Aside0 (wr.heap[gc]? = some (.cells #[.int .i64 v, .slice A1 f1.length c1, .slice A2 f2.length c2] 44 (0, 0))) ∧ Aside0 (wr.heap[gr]? = some (.cells #[.int .i64 st, .int .i64 v, .string pl, .string adr] 50 (0, 0))) ∧ Aside0 (wr.heap[gx]? = some (.cells #[.string s1, .string s2, .string pl] 54 (0, 0))))
      case atStart => exact ⟨0, rfl, ⟨zO, Nat.zero_le _⟩, HB, HQ2, GC, GR, GX⟩
      case round =>
        clear HB HQ2 GC GR GX;obtain ⟨j, rfl, HJ, HB, HQ2, GC, GR, GX⟩ := hrel;have hj : j < f2.length := by have := HJ.out; have := HI2.out; omega
        have t1 : decide ((j : Int) < (f2.length : Int)) = true := zt zO;have t1n : decide (j < f2.length) = true := zt hj;have p1 := zu (show (0 : Int) ≤ (j : Int) by omega);have q1 := zu (show (j : Int) < (f2.length : Int) by omega);have q1n := zu hj;obtain ⟨y, hy⟩ : ∃ y, y = rd_T58 f2 (j : Int) := ⟨_, rfl⟩;obtain ⟨ad, B7, d7, hA, k0, k1, hl7, hc7⟩ := at_pool HQ2.out hj;subst hA;rw [← hy] at k0 k1 hl7 hc7;have HY := zN hy;have HL7 := zN hl7;have HC7 := zN hc7;clear hy hl7 hc7;have HJL := zN hj;clear hj;have c2_ : wr.cell? ⟨gc, 2, none⟩ = some (.slice (some ad) f2.length c2) := (blk_cell GC.out 2).trans rfl;have x2_ : wr.cell? ⟨gx, 2, none⟩ = some (.string pl) := (blk_cell GX.out 2).trans rfl;by_cases hji : j = i2;rotate_left
        · have d1 : (y.f0.toList == pl.toList) = false := by
            rw [HY.out];exact beq_ne_of (HMM.out j (by have := HJ.out; omega))
          go_upto_region 21 with (fail)
          go_still (by rfl);rw [show ({ heap := wr.heap, tape := wr.tape, drawn := wr.drawn + 1, os := wr.os, output := wr.output } : World) = wr.drew from rfl];replace HB := zN (below_drew1 HB.out);replace HQ2 := zN (Kd.C_drew HQ2.out);replace GC := zN (blk_drew GC.out);replace GR := zN (blk_drew GR.out);replace GX := zN (blk_drew GX.out);replace HC7 := zN (Kd.C_drew HC7.out);generalize wr.drew = wd at HB HQ2 GC GR GX HC7 ⊢;obtain ⟨j', hj'⟩ : ∃ j' : Nat, j' = j + 1 := ⟨_, rfl⟩;have hw : wrap64 ((j : Int) + 1) = (j' : Int) := by have := HJL.out; have := HZ.out.2; subst hj'; unfold wrap64; omega
          have HJ' := zN hj';clear hj';go_wp2;go_roundg (f2.length - j')
          case measure => have := HJ.out; have := HJ'.out; have := HJL.out; omega
          case rel => exact ⟨j', (by first | rfl | rw [hw]), ⟨by have := HJ.out; have := HJ'.out; have := HJL.out; omega, by have := HJ.out; have := HJ'.out; omega⟩, HB, HQ2, GC, GR, GX⟩
        subst hji;obtain rfl := HY.out;clear HY;obtain ⟨y, hy⟩ : ∃ y, y = rd_T58 f2 (j : Int) := ⟨_, rfl⟩;rw [← hy] at k0 k1 HL7 HC7 HNM HWY;clear hy;have d1 : (y.f0.toList == pl.toList) = true := by rw [HNM.out]; simp
        go_upto_region 21 with (fail)
        go_still (by rfl);have K1 := zN (show wr.drew.cell? _ = _ from k1);clear k0 k1 c2_ x2_;rw [show ({ heap := wr.heap, tape := wr.tape, drawn := wr.drawn + 1, os := wr.os, output := wr.output } : World) = wr.drew from rfl];replace HB := zN (below_drew1 HB.out);replace HQ2 := zN (Kd.C_drew HQ2.out);replace GC := zN (blk_drew GC.out);replace GR := zN (blk_drew GR.out);replace GX := zN (blk_drew GX.out);replace HC7 := zN (Kd.C_drew HC7.out);generalize wr.drew = wd at HB HQ2 GC GR GX HC7 K1 ⊢;have k1 : wd.cell? ⟨(ad.add (j * 2)).block, (ad.add (j * 2)).off + 1, none⟩ = some (.slice B7 y.f1.length d7) := K1.out;have c2_ : wd.cell? ⟨gc, 2, none⟩ = some (.slice (some ad) f2.length c2) := (blk_cell GC.out 2).trans rfl
        rcases HWY.out with ⟨hwe, rfl, rfl⟩ | ⟨t, ht, hwe, rfl, rfl⟩
        · have HWE := zN hwe;clear hwe;go_upto_region 23 with ((go_at_call 14; refine (plane_Weigh.calls HWE.out.choose B7 d7 y.f1 a2 0 false _ HC7.out HL7.out (HWE.out.choose_spec _ (zh _))).mono ?_; rintro e w15 ⟨rfl, hb⟩; have K2 := zN (pw_cell_below hb k1); replace HB := zN (below_step HB.out hb); replace HQ2 := zN (Kd.C_below HQ2.out hb); replace GC := zN (blk_below GC.out hb); replace GR := zN (blk_below GR.out hb); replace GX := zN (blk_below GX.out hb); replace HC7 := zN (Kd.C_below HC7.out hb); clear hb))
          have c0_ : w15.cell? ⟨gc, 0, none⟩ = some (.int .i64 v) := (blk_cell GC.out 0).trans rfl;have x2_ : w15.cell? ⟨gx, 2, none⟩ = some (.string pl) := (blk_cell GX.out 2).trans rfl;go_wp2_with (((with_reducible refine gate_dst (N := 123) rfl ?_); refine wpList_load_any rfl 50 (.tmp 13) rfl ⟨gr, 0, none⟩ rfl [.int .i64 503, .int .i64 v, .string pl, .string ⟨#[]⟩] _ (blk_cells GR.out) huR rfl zQ ?_; simp only [Act.put, List.setIfInBounds_toArray, List.set_cons_zero, List.set_cons_succ]));go_ret;exact ⟨by simp, HB.out⟩
        have HWE := zN hwe;have HTT := zN ht;clear hwe ht;go_upto_region 23 with ((go_at_call 14; refine (plane_Weigh.calls HWE.out.choose B7 d7 y.f1 a2 (t : Int) true _ HC7.out HL7.out (HWE.out.choose_spec _ (zh _))).mono ?_; rintro e w15 ⟨rfl, hb⟩; have K2 := zN (pw_cell_below hb k1); replace HB := zN (below_step HB.out hb); replace HQ2 := zN (Kd.C_below HQ2.out hb); replace GC := zN (blk_below GC.out hb); replace GR := zN (blk_below GR.out hb); replace GX := zN (blk_below GX.out hb); replace HC7 := zN (Kd.C_below HC7.out hb); clear hb))
        go_upto_region 25 with (fail)
        clear k1 c2_;replace HB := zN (below_drew1 HB.out);replace HQ2 := zN (Kd.C_drew HQ2.out);replace GC := zN (blk_drew GC.out);replace GR := zN (blk_drew GR.out);replace GX := zN (blk_drew GX.out);replace HC7 := zN (Kd.C_drew HC7.out);have K3 := zN (show w15.drew.cell? _ = _ from K2.out);refine start_ (n := 18) (S := fun w' => w' = w15.drew) (ds := []) #[false, false, false, false, false, false, false, false, false, false, false, false, false, false, false, false, false, false] zQ rfl rfl rfl (fun hHeld => ?_);refine with_tab (T := gate_T25) gate_T25_is (fun HT_ => ?_);generalize w15.drew = we at HB HQ2 GC GR GX HC7 K3 hHeld ⊢;obtain ⟨ad2, hA2, t0_⟩ := at_tgt HC7.out HTT.out;subst hA2;have c0_ : we.cell? ⟨gc, 0, none⟩ = some (.int .i64 v) := (blk_cell GC.out 0).trans rfl;have x2_ : we.cell? ⟨gx, 2, none⟩ = some (.string pl) := (blk_cell GX.out 2).trans rfl;have c2_ : we.cell? ⟨gc, 2, none⟩ = some (.slice (some ad) f2.length c2) := (blk_cell GC.out 2).trans rfl;have k1 := K3.out;have p2 := zu (show (0 : Int) ≤ (t : Int) by omega);have q2 := zu (show (t : Int) < (y.f1.length : Int) by have := HTT.out; omega);have q2n := zu HTT.out;refine take_ (i := 0) (N := some 130) (v := .agg #[.int .i64 200, .int .i64 v, .string pl, .string (rd_T62 y.f1 (t : Int)).f0]) (a' := ?_) #[true, false, false, false, false, false, false, false, false, false, false, false, false, false, false, false, false, false] rfl rfl (take_of HT_.out zQ) (fun _ _ _ h => h) (yieldsIf_load_any (by rfl) 50 (.tmp 13) rfl ⟨gr, 0, none⟩ rfl [.int .i64 200, .int .i64 v, .string pl, .string (rd_T62 y.f1 (t : Int)).f0] _ (fun w_ hw_ => by rw [hw_]; exact blk_cells GR.out) huR rfl zQ) hHeld ?_ ?_;rotate_left
        · simp only [zP];rfl
        refine zU (i := 1) (N := some 131) #[true, true, false, false, false, false, false, false, false, false, false, false, false, false, false, false, false, false] rfl rfl HT_ ?_;refine take_ (i := 2) (N := some 132) (v := ?_) (a' := ?_) #[true, true, true, false, false, false, false, false, false, false, false, false, false, false, false, false, false, false] rfl rfl (take_of HT_.out zQ) (fun _ _ _ h => h) (Or.inl ⟨by rfl, ?_⟩) hHeld ?_ ?_;rotate_left
        · rintro w' rfl;go_simp
          with_reducible rfl
        rotate_left
        · simp only [zP];rfl
        refine zU (i := 3) (N := some 133) #[true, true, true, true, false, false, false, false, false, false, false, false, false, false, false, false, false, false] rfl rfl HT_ ?_;refine take_ (i := 4) (N := some 134) (v := ?_) (a' := ?_) #[true, true, true, true, true, false, false, false, false, false, false, false, false, false, false, false, false, false] rfl rfl (take_of HT_.out zQ) (fun _ _ _ h => h) (Or.inl ⟨by rfl, ?_⟩) hHeld ?_ ?_;rotate_left
        · rintro w' rfl;go_simp
          with_reducible rfl
        rotate_left
        · simp only [zP];rfl
        refine zU (i := 5) (N := some 135) #[true, true, true, true, true, true, false, false, false, false, false, false, false, false, false, false, false, false] rfl rfl HT_ ?_;refine take_ (i := 6) (N := some 136) (v := ?_) (a' := ?_) #[true, true, true, true, true, true, true, false, false, false, false, false, false, false, false, false, false, false] rfl rfl (take_of HT_.out zQ) (fun _ _ _ h => h) (Or.inl ⟨by rfl, ?_⟩) hHeld ?_ ?_;rotate_left
        · rintro w' rfl;go_simp
          with_reducible rfl
        rotate_left
        · simp only [zP];rfl
        refine zU (i := 7) (N := some 137) #[true, true, true, true, true, true, true, true, false, false, false, false, false, false, false, false, false, false] rfl rfl HT_ ?_;refine zU (i := 8) (N := some 138) #[true, true, true, true, true, true, true, true, true, false, false, false, false, false, false, false, false, false] rfl rfl HT_ ?_;refine zU (i := 9) (N := some 139) #[true, true, true, true, true, true, true, true, true, true, false, false, false, false, false, false, false, false] rfl rfl HT_ ?_;refine take_ (i := 10) (N := some 140) (v := ?_) (a' := ?_) #[true, true, true, true, true, true, true, true, true, true, true, false, false, false, false, false, false, false] rfl rfl (take_of HT_.out zQ) (fun _ _ _ h => h) (Or.inl ⟨by rfl, ?_⟩) hHeld ?_ ?_;rotate_left
        · rintro w' rfl;go_simp
          with_reducible rfl
        rotate_left
        · simp only [zP];rfl
        refine zU (i := 11) (N := some 141) #[true, true, true, true, true, true, true, true, true, true, true, true, false, false, false, false, false, false] rfl rfl HT_ ?_;refine zU (i := 12) (N := some 142) #[true, true, true, true, true, true, true, true, true, true, true, true, true, false, false, false, false, false] rfl rfl HT_ ?_;refine zU (i := 13) (N := some 143) #[true, true, true, true, true, true, true, true, true, true, true, true, true, true, false, false, false, false] rfl rfl HT_ ?_;refine take_ (i := 14) (N := some 144) (v := ?_) (a' := ?_) #[true, true, true, true, true, true, true, true, true, true, true, true, true, true, true, false, false, false] rfl rfl (take_of HT_.out zQ) (fun _ _ _ h => h) (Or.inl ⟨by rfl, ?_⟩) hHeld ?_ ?_;rotate_left
        · rintro w' rfl;go_simp
          with_reducible rfl
        rotate_left
        · simp only [zP];rfl
        refine zU (i := 15) (N := some 145) #[true, true, true, true, true, true, true, true, true, true, true, true, true, true, true, true, false, false] rfl rfl HT_ ?_;refine zU (i := 16) (N := some 146) #[true, true, true, true, true, true, true, true, true, true, true, true, true, true, true, true, true, false] rfl rfl HT_ ?_;refine zU (i := 17) (N := some 6) #[true, true, true, true, true, true, true, true, true, true, true, true, true, true, true, true, true, true] rfl rfl HT_ ?_;refine done_ (done_of HT_.out zQ) ?_;clear HT_;clear hHeld;go_wp2;go_ret;exact ⟨by simp, HB.out⟩
end Go.Proofs.YtpigfccpogmeaaaGreatDoor.S
end
section
namespace Go.Proofs.YtpigfccpogmeaaaGreatDoor.S
set_option linter.unusedVariables false
open Go.RowKit Go.Proofs.YtpigfccpogmeaaaGreatDoorW.PrintWords Go.Proofs.YtpigfccpogmeaaaGreatDoorW.PrintLast Go.Proofs.YtpigfccpogmeaaaGreatDoorW.PrintMore
def GateFits (l : List S35) (sm sp sq sh : ByteArray) (fl : List S88) (a2 : Nat) : Prop :=
  (∀ x ∈ l, x.f4.size ≤ 1048576 ∧ x.f5.size ≤ 1048576 ∧ x.f6.size ≤ 1048576 ∧ (∀ t ∈ x.f7, TgOk t) ∧ (Lit.int .i64 x.f1).wf = true) ∧
  ∀ (v : Int) (f1 : List S54) (f2 : List S58), f1.length ≤ 200 → f2.length ≤ 200 → (∀ p ∈ f2, p.f1.length ≤ 200) → (∀ p ∈ f2, ∀ y ∈ p.f1, y.f1 < 18446744073709551616) → (∀ r ∈ f1, ∃ x ∈ f2, x.f0 = r.f2) → PP.GateLaw v f1 f2 sm sp sq sh fl a2
open Classical in
noncomputable def tollgatetop_TopGate.f (k : Nat) (l : List S35) (sm sp sq sh : ByteArray) (fl : List S88) (a2 : Nat) : Option Bool := if GateFits l sm sp sq sh fl a2 then some true else none
theorem tollgatetop_TopGate.hand2 (k : Nat) (A0 : Option Addr) (c0 : Nat) (l : List S35) (sm sp sq sh : ByteArray) (A4 : Option Addr) (c4 : Nat) (fl : List S88) (a2 : Nat) (r : Bool) (w : World) (hml : ML w) (hr0 : Kd.C k35 w A0 l.length l) (hc0 : l.length ≤ c0) (hr4 : Kd.C k88 w A4 fl.length fl) (hc4 : fl.length ≤ c4) (h : tollgatetop_TopGate.f k l sm sp sq sh fl a2 = some r) :
    Calls Tryz.prog 3 #[.slice A0 l.length c0, .agg #[.string sm, .string sp, .string sq, .string sh, .slice A4 fl.length c4], .float .f64 a2] w fun e w' => e = .returned (.bool r) ∧ Below w.heap.size w w' := by
  unfold tollgatetop_TopGate.f at h
  split at h
  · next hh =>
    obtain rfl := zo h;exact tollgatetop_TopGate.hand A0 c0 l sm sp sq sh A4 c4 fl a2 w hml hr0 hc0 hr4 hc4 hh.1 hh.2
  cases h
end Go.Proofs.YtpigfccpogmeaaaGreatDoor.S
end
section
namespace Go.Proofs.YtpigfccpogmeaaaGreatDoor.HP
open Go.RowKit Go.Proofs.YtpigfccpogmeaaaGreatDoor.S Go.Proofs.YtpigfccpogmeaaaGreatDoorW.PrintWords Go.Proofs.YtpigfccpogmeaaaGreatDoorW.PrintLast Go.Proofs.YtpigfccpogmeaaaGreatDoorW.PrintMore
def unF (x : S88) : Fd := (x.f0.data.toList, x.f1.data.toList)
theorem unF_s (l : List S88) : (l.map unF).map sF = l := by
  rw [List.map_map]
  conv => rhs; rw [← List.map_id l]
  apply List.map_congr_left;intro x _
  show (⟨B x.f0.data.toList, B x.f1.data.toList⟩ : S88) = x
  rw [B_of, B_of]
theorem szF_un (l : List S88) : szF (l.map unF) + (l.map unF).length ≤ 4 * (l.map (fun y => mu88 y)).sum := by
  induction l with
  | nil => simp [szF]
  | cons x l ih =>
    simp only [List.map_cons, List.sum_cons, szF, List.length_cons] at ih ⊢;have h0 : x.f0.data.toList.length = x.f0.size := by simp
    have h1 : x.f1.data.toList.length = x.f1.size := by simp
    simp only [unF, mu88] at ih ⊢;omega
theorem head_in (y : S25) (h : mu25 y ≤ 1048576) : ∃ m p q hh fs, y = ⟨B m, B p, B q, B hh, fs.map sF⟩ ∧ (preW m p q).length ≤ 10000000 ∧ szF fs ≤ 10000000 ∧ fs.length ≤ 10000000 := by
  obtain ⟨a, b, c, d, l⟩ := y;have hs := szF_un l;simp only [mu25] at h;have e0 : a.data.toList.length = a.size := by simp
  have e1 : b.data.toList.length = b.size := by simp
  have e2 : c.data.toList.length = c.size := by simp
  have e3 : d.data.toList.length = d.size := by simp
  refine ⟨a.data.toList, b.data.toList, c.data.toList, d.data.toList, l.map unF, by rw [B_of, B_of, B_of, B_of, unF_s], ?_, zO, zO⟩;unfold preW tgt
  split <;> simp [verL] <;> omega
end Go.Proofs.YtpigfccpogmeaaaGreatDoor.HP
namespace Go.Proofs.YtpigfccpogmeaaaGreatDoor.PureU
open Go.RowKit Go.Proofs.YtpigfccpogmeaaaGreatDoor.S Go.Proofs.YtpigfccpogmeaaaGreatDoor.HP Go.Proofs.YtpigfccpogmeaaaGreatDoorW.PrintWords Go.Proofs.YtpigfccpogmeaaaGreatDoorW.PrintLast Go.Proofs.YtpigfccpogmeaaaGreatDoorW.PrintMore
def _root_.Go.Proofs.YtpigfccpogmeaaaGreatDoor.S.tollgatetop_TopGate.PureU : Prop := ∀ (l0 : List (S35)) (y1 : S25) (a2 : Nat), (((l0.map (fun y => mu35 y)).sum + 1) + mu25 y1) ≤ 1048576 → (∀ y ∈ l0, ok35 y) → ok25 y1 → (Lit.float .f64 a2).wf = true → ∃ k, tollgatetop_TopGate.f k l0 y1.f0 y1.f1 y1.f2 y1.f3 y1.f4 a2 = some true
theorem le_sum {α : Type} (f : α → Nat) : ∀ {l : List α} {x : α}, x ∈ l → f x ≤ (l.map f).sum
  | y :: l, x, h => by
    rw [List.map_cons, List.sum_cons]
    rcases List.mem_cons.1 h with rfl | h
    · omega
    have := le_sum f h;omega
theorem TopGate : tollgatetop_TopGate.PureU := by
  intro l0 y1 a2 hS hok _ hw;refine ⟨0, ?_⟩;obtain ⟨m, p, q, hh, fs, rfl, h1, h2, h3⟩ := head_in y1 zO;unfold tollgatetop_TopGate.f;rw [zp];refine ⟨fun x hx => ?_, fun v f1 f2 hl hp ht hw2 hrp => PP.gate_is v f1 f2 m p q hh fs a2 zO zO zO hl hp ht hw2 (by simpa [Lit.wf] using hw) hrp⟩;have hm := le_sum (fun y => mu35 y) hx;obtain ⟨_, k1, _, _, _, _, _, k7⟩ := hok x hx;simp only [mu35] at hm hS;refine ⟨zO, zO, zO, fun t htm => ⟨?_, by simpa [Lit.wf] using (k7 t htm).2⟩, k1⟩;have hm2 := le_sum (fun y => mu62 y) htm;simp only [mu62] at hm2 hm hS;omega
end Go.Proofs.YtpigfccpogmeaaaGreatDoor.PureU
end
