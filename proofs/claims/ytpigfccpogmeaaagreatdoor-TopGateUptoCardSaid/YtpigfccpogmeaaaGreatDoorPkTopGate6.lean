/- Walks and plain facts, joined out of several texts: what the row of TopGate leads to. -/
import Derived.Test.YtpigfccpogmeaaaGreatDoorPkTopGate5
import Derived.Lib.FrozenHead
section
namespace Go.Proofs.YtpigfccpogmeaaaGreatDoor.HP
open Go.RowKit Go.Proofs.YtpigfccpogmeaaaGreatDoor.S Go.Proofs.YtpigfccpogmeaaaGreatDoorW.PrintWords Go.Proofs.YtpigfccpogmeaaaGreatDoorW.PrintLast Go.Proofs.YtpigfccpogmeaaaGreatDoorW.PrintMore
def hexB (b : UInt8) : Bool := decide (48 ≤ b.toNat ∧ b.toNat ≤ 57 ∨ 97 ≤ b.toNat ∧ b.toNat ≤ 102 ∨ 65 ≤ b.toNat ∧ b.toNat ≤ 70)
def pchB (b : UInt8) : Bool := alB b || decide (0 ≤ Lib.indexByte [47, 45, 46, 95, 126, 33, 36, 38, 39, 40, 41, 42, 43, 44, 59, 61, 58, 64] b)
def two : List UInt8 → Bool
  | a :: b :: _ => hexB a && hexB b
  | _ => false
theorem two_short : ∀ (l : List UInt8), l.length < 2 → two l = false
  | [], _ => rfl
  | [_], _ => rfl
  | _ :: _ :: _, h => by simp at h; omega
def atB (q : Bool) : List UInt8 → Bool
  | [] => true
  | c :: r => if c.toNat = 37 then two r else if c.toNat = 63 ∧ q = true then true else pchB c
theorem atB_cons (q : Bool) (c : UInt8) (r : List UInt8) : atB q (c :: r) = if c.toNat = 37 then two r else if c.toNat = 63 ∧ q = true then true else pchB c := rfl
def suchL (q : Bool) : List UInt8 → Bool
  | [] => true
  | c :: r => atB q (c :: r) && suchL q r
theorem hex_is (b : UInt8) : head_hex.f (b.toNat : Int) = some (hexB b) := by
  unfold head_hex.f hexB
  repeat' split
  all_goals simp only [Option.some.injEq]
  all_goals first
    | (symm; rw [decide_eq_true_eq]; omega)
    | (rw [decide_eq_decide]; omega)
    | (symm; rw [decide_eq_false_iff_not]; omega)
theorem such_loop (q : Bool) (l : List UInt8) (hl : l.length ≤ 4294967296) : ∀ (d i : Nat), i + d = l.length → Ev (fun k => head_such.l0 k (B l) q (i : Int)) (suchL q (l.drop i)) := by
  intro d
  induction d with
  | zero =>
    intro i hi;refine Ev.step (fun k => by simp only [head_such.l0]; rfl) (Ev.neg (by rw [B_size]; omega) (Ev.ret ?_));rw [List.drop_eq_nil_of_le zO];rfl
  | succ d ih =>
    intro i hi;have hlt : i < l.length := by omega
    have hw := wrap_succ i zO;have hw2 : wrap64 ((i : Int) + 2) = ((i + 2 : Nat) : Int) := by unfold wrap64; omega
    have hd : l.drop i = l[i] :: l.drop (i + 1) := List.drop_eq_getElem_cons hlt;have hi' := ih (i + 1) zO;have hx : (B l).extract (i : Int).toNat ((i + 1 : Nat) : Int).toNat = B [l[i]] := by
      rw [Int.toNat_natCast, Int.toNat_natCast, B_extract, hd, Nat.add_sub_cancel_left];rfl
    have hc : strings_Contains.f (⟨#[47, 45, 46, 95, 126, 33, 36, 38, 39, 40, 41, 42, 43, 44, 59, 61, 58, 64]⟩ : ByteArray) (B [l[i]]) = some (decide (0 ≤ Lib.indexByte [47, 45, 46, 95, 126, 33, 36, 38, 39, 40, 41, 42, 43, 44, 59, 61, 58, 64] l[i])) := by
      unfold strings_Contains.f;rw [zp (by rw [B_size]; rfl), B_list];rfl
    have hws : wrap64 (((B l).size : Int) - (i : Int)) = ((l.length - i : Nat) : Int) := by rw [B_size]; unfold wrap64; omega
    rw [hd]
    show Ev _ (atB q (l[i] :: l.drop (i + 1)) && suchL q (l.drop (i + 1)))
    have hJ2 : l[i].toNat ≠ 37 → ¬ (l[i].toNat = 63 ∧ q = true) → Ev (fun k => head_such.j2 k (B l) q (i : Int) (l[i].toNat : Int)) (atB q (l[i] :: l.drop (i + 1)) && suchL q (l.drop (i + 1))) := by
      intro h37 h63;refine Ev.step (fun k => by simp only [head_such.j2]; rfl) ?_;refine Ev.call (alnum_is _) ?_;have hat : atB q (l[i] :: l.drop (i + 1)) = pchB l[i] := by
        rw [atB_cons, zn h37, zn h63]
      rw [hat, hw];cases hA : alB l[i] with
      | true =>
        have hp : pchB l[i] = true := by simp [pchB, hA]
        rw [hp, Bool.true_and];exact Ev.pos rfl hi'
      | false =>
        refine Ev.neg (by simp) (Ev.pos zO (Ev.pos zO (Ev.pos (by rw [B_size]; omega) ?_)));rw [hx];refine Ev.call hc ?_;cases hD : decide (0 ≤ Lib.indexByte [47, 45, 46, 95, 126, 33, 36, 38, 39, 40, 41, 42, 43, 44, 59, 61, 58, 64] l[i]) with
        | true =>
          have hp : pchB l[i] = true := by simp only [pchB, hD, Bool.or_true]
          rw [hp, Bool.true_and];exact Ev.pos rfl hi'
        | false =>
          have hp : pchB l[i] = false := by simp only [pchB, hA, hD, Bool.or_false]
          rw [hp, Bool.false_and];exact Ev.neg (by simp) (Ev.ret rfl)
    refine Ev.step (fun k => by simp only [head_such.l0]; rfl) ?_;refine Ev.pos (by rw [B_size]; omega) (Ev.pos zO ?_);rw [B_bt l i hlt];by_cases h37 : l[i].toNat = 37;rotate_left
    · refine Ev.neg zO ?_;by_cases h63 : l[i].toNat = 63
      · refine Ev.pos zO ?_;by_cases hq : q = true
        · refine Ev.pos hq ?_;have hat : atB q (l[i] :: l.drop (i + 1)) = true := by
            rw [atB_cons, zn h37, zp ⟨h63, hq⟩]
          rw [hat, Bool.true_and, hw];exact hi'
        exact Ev.neg hq (hJ2 h37 (fun h => hq h.2))
      exact Ev.neg zO (hJ2 h37 (fun h => h63 h.1))
    refine Ev.pos zO ?_;rw [hws];have hat : atB q (l[i] :: l.drop (i + 1)) = two (l.drop (i + 1)) := by
      rw [atB_cons, zp h37]
    rw [hat];by_cases h3 : l.length - i < 3
    · have hF : two (l.drop (i + 1)) = false := two_short _ (by rw [List.length_drop]; omega);rw [hF, Bool.false_and];refine Ev.pos zO ?_;refine Ev.step (fun k => by simp only [head_such.j1]; rfl) ?_;exact Ev.pos (by trivial) (Ev.ret rfl)
    have h1 : i + 1 < l.length := by omega
    have h2 : i + 2 < l.length := by omega
    have hd1 : l.drop (i + 1) = l[i + 1] :: l[i + 2] :: l.drop (i + 3) := by
      rw [List.drop_eq_getElem_cons h1, List.drop_eq_getElem_cons h2]
    have hM : two (l.drop (i + 1)) = (hexB l[i + 1] && hexB l[i + 2]) := by rw [hd1]; rfl
    rw [hM, hw, hw2];refine Ev.neg zO (Ev.pos zO (Ev.pos (by rw [B_size]; omega) ?_));rw [B_bt l (i + 1) h1];refine Ev.call (hex_is _) ?_;cases hA : hexB l[i + 1] with
    | false =>
      refine Ev.neg (by simp) ?_;rw [Bool.false_and, Bool.false_and];refine Ev.step (fun k => by simp only [head_such.j1]; rfl) ?_;exact Ev.pos (by trivial) (Ev.ret rfl)
    | true =>
      refine Ev.pos rfl (Ev.pos zO (Ev.pos (by rw [B_size]; omega) ?_));rw [B_bt l (i + 2) h2];refine Ev.call (hex_is _) ?_;cases hA2 : hexB l[i + 2] with
      | false =>
        rw [Bool.and_false, Bool.false_and];refine Ev.step (fun k => by simp only [head_such.j1]; rfl) ?_;exact Ev.pos (by trivial) (Ev.ret rfl)
      | true =>
        rw [Bool.and_true, Bool.true_and];refine Ev.step (fun k => by simp only [head_such.j1]; rfl) (Ev.neg (by decide) ?_);rw [hw];exact hi'
theorem such_is (q : Bool) (l : List UInt8) (hl : l.length ≤ 4294967296) : Ev (fun k => head_such.f k (B l) q) (suchL q l) := such_loop q l hl l.length 0 zO
def pathL (l : List UInt8) : Bool := if Lib.hasPrefix l [47] = true then suchL false l else false
theorem path_is (l : List UInt8) (hl : l.length ≤ 4294967296) : Ev (fun k => head_path.f k (B l)) (pathL l) := by
  have hp : strings_HasPrefix.f (B l) (⟨#[47]⟩ : ByteArray) = some (Lib.hasPrefix l [47]) := by
    unfold strings_HasPrefix.f;rw [B_list]
  unfold head_path.f pathL;refine Ev.call hp ?_;by_cases h : Lib.hasPrefix l [47] = true
  · rw [zp h];exact Ev.pos h (Ev.bind (such_is false l hl) (Ev.ret rfl))
  rw [zn h];exact Ev.neg h (Ev.ret rfl)
theorem such_mem (q : Bool) : ∀ (l : List UInt8), suchL q l = true → ∀ c ∈ l, c.toNat = 37 ∨ (c.toNat = 63 ∧ q = true) ∨ pchB c = true
  | [], _, c, hc => by simp at hc
  | x :: r, h, c, hc => by
    have h' : (atB q (x :: r) && suchL q r) = true := h;rw [Bool.and_eq_true] at h'
    rcases List.mem_cons.1 hc with rfl | hc
    · have ha : atB q (c :: r) = true := h'.1;rw [atB_cons] at ha;by_cases h37 : c.toNat = 37
      · exact .inl h37
      rw [zn h37] at ha;by_cases h63 : c.toNat = 63 ∧ q = true
      · exact .inr (.inl h63)
      rw [zn h63] at ha;exact .inr (.inr ha)
    exact such_mem q r h'.2 c hc
theorem such_no (q : Bool) (l : List UInt8) (h : suchL q l = true) (c : UInt8) (h1 : c.toNat ≠ 37) (h2 : ¬ (c.toNat = 63 ∧ q = true)) (h3 : pchB c = false) : c ∉ l := by
  intro hc
  rcases such_mem q l h c hc with h' | h' | h'
  · exact h1 h'
  · exact h2 h'
  rw [h3] at h';cases h'
theorem path_such {l : List UInt8} (h : pathL l = true) : suchL false l = true ∧ ∃ r, l = 47 :: r := by
  unfold pathL at h
  split at h
  · rename_i hp
    refine ⟨h, ?_⟩;cases l with
    | nil => simp [Lib.hasPrefix] at hp
    | cons x r =>
      have : (47 : UInt8) = x := by simpa [Lib.hasPrefix, List.isPrefixOf] using hp
      exact ⟨r, by rw [← this]⟩
  cases h
def tgt (p q : List UInt8) : List UInt8 := p ++ (if q = [] then [] else 63 :: q)
theorem target_is (p q : List UInt8) (hp : pathL p = true) (hq : suchL true q = true) (hl : p.length + q.length ≤ 1000000000) : Ev (fun k => head_target.f k (B (tgt p q))) (B p, B q, B [], true) := by
  obtain ⟨hs, r, hr⟩ := path_such hp;have h63 : (63 : UInt8) ∉ p := such_no false p hs 63 (by decide) (by simp) (by decide);have hc : strings_Cut.f (B (tgt p q)) (⟨#[63]⟩ : ByteArray) = some (B p, B q, decide (q ≠ [])) := by
    have hle : (tgt p q).length < 4294967281 := by
      unfold tgt
      split <;> simp <;> omega
    have := Cut_is (tgt p q) [63] hle;by_cases h : q = []
    · subst h;rw [show tgt p [] = p by simp [tgt]] at this ⊢;rw [cut_no p 63 h63] at this;exact this
    rw [show tgt p q = p ++ 63 :: q by simp [tgt, h]] at this ⊢;rw [cut_one p q 63 h63] at this;rw [show (⟨#[63]⟩ : ByteArray) = B [63] from rfl, this];simp [h]
  have hx : strings_CutPrefix.f (B p) (⟨#[104, 116, 116, 112, 58, 47, 47]⟩ : ByteArray) = some (B p, false) := by
    unfold strings_CutPrefix.f;have hf : Lib.hasPrefix (B p).data.toList (⟨#[104, 116, 116, 112, 58, 47, 47]⟩ : ByteArray).data.toList = false := by
      rw [B_list, hr];rfl
    unfold Lib.trimPrefix;rw [hf, zn (by simp), B_list];rfl
  unfold head_target.f;refine Ev.call hc (Ev.call hx (Ev.neg (by simp) (Ev.bind (path_is p zO) ?_)));rw [hp];refine Ev.pos rfl (Ev.bind (such_is true q zO) ?_);rw [hq];exact Ev.ret rfl
theorem drop_head (p : UInt8 → Bool) (x : UInt8) (r : List UInt8) (h : p x = false) : (x :: r).dropWhile p = x :: r := by simp [h]
theorem trim_val (v : List UInt8) (hv : valOk v = true) : Lib.trimS (32 :: v) [9, 32] = v := by
  have hb : ∀ c : UInt8, blankB c = ([9, 32] : List UInt8).contains c := by
    intro c;unfold blankB;rw [Bool.eq_iff_iff, decide_eq_true_eq];simp only [List.contains_cons, List.contains_nil, Bool.or_false, Bool.or_eq_true, beq_iff_eq]
    constructor
    · rintro (h | h)
      · exact .inl (UInt8.toNat_inj.1 h)
      exact .inr (UInt8.toNat_inj.1 h)
    rintro (rfl | rfl)
    · exact .inl rfl
    exact .inr rfl
  unfold valOk at hv;rw [Bool.and_eq_true] at hv;cases v with
  | nil => decide
  | cons x r =>
    have he : (!blankB x && !blankB ((x :: r).getLastD 0)) = true := hv.2;rw [Bool.and_eq_true, Bool.not_eq_true', Bool.not_eq_true'] at he;rw [hb, hb] at he;have hl : (x :: r).getLastD 0 = (x :: r).getLast (by simp) := by simp [List.getLastD_eq_getLast?, List.getLast?_eq_some_getLast]
    rw [hl] at he;have hrev : (32 :: x :: r).reverse = (x :: r).getLast (by simp) :: ((x :: r).dropLast.reverse ++ [32]) := by
      have : (x :: r).reverse = (x :: r).getLast (by simp) :: (x :: r).dropLast.reverse := by
        conv => lhs; rw [← List.dropLast_concat_getLast (l := x :: r) (by simp)]
        simp
      rw [List.reverse_cons, this, List.cons_append]
    unfold Lib.trimS Lib.trimRightS Lib.trimLeftS;rw [hrev, drop_head _ _ _ he.2, ← hrev, List.reverse_reverse];have h32 : (32 :: x :: r).dropWhile (([9, 32] : List UInt8).contains ·) = (x :: r).dropWhile (([9, 32] : List UInt8).contains ·) := rfl;rw [h32, drop_head _ _ _ he.1]
theorem val_no {v : List UInt8} (h : valOk v = true) (c : UInt8) (hc : valB c = false) : c ∉ v := by
  intro hm;unfold valOk at h;rw [Bool.and_eq_true] at h;have := (List.all_eq_true.1 h.1) c hm;rw [hc] at this;cases this
theorem splitK_len (sub : List UInt8) : ∀ (k : Nat) (s : List UInt8), (Lib.splitK sub 0 k s).length ≤ k + 1 ∧ ∀ p ∈ Lib.splitK sub 0 k s, p.length ≤ s.length := by
  intro k
  induction k with
  | zero => intro s; simp [Lib.splitK]
  | succ k ih =>
    intro s;simp only [Lib.splitK]
    split
    · simp
    have h := ih (s.drop ((Lib.index s sub).toNat + sub.length));refine ⟨by simp only [List.length_cons]; omega, ?_⟩;intro p hp
    rcases List.mem_cons.1 hp with rfl | hp
    · simp;omega
    have := h.2 p hp;rw [List.length_drop] at this;omega
theorem countFrom_le (sub : List UInt8) : ∀ (k : Nat) (s : List UInt8), Lib.countFrom sub k s ≤ k
  | 0, _ => zh _
  | k + 1, s => by
    unfold Lib.countFrom
    split
    · omega
    have := countFrom_le sub k (s.drop ((Lib.index s sub).toNat + sub.length));omega
theorem split_len (s sub : List UInt8) : (Lib.split s sub).length ≤ s.length + 2 ∧ ∀ p ∈ Lib.split s sub, p.length ≤ s.length := by
  have h1 := splitK_len sub (Lib.count s sub) s;have h2 : Lib.count s sub ≤ s.length + 1 := countFrom_le sub _ s;unfold Lib.split;exact ⟨zO, h1.2⟩
theorem Ev.res {α : Type} {g : Nat → Option α} {a r : α} (h : Ev g a) (e : a = r) : Ev g r := e ▸ h
def hbB (b : UInt8) : Bool := alB b || decide (b.toNat = 45)
def partOk (p : List UInt8) : Bool := p.all hbB && (p != [])
def hostS (l : List UInt8) : List UInt8 × Bool :=
  if (Lib.cut l [58]).2.1.all digB = true ∧ (Lib.cut l [58]).2.1.length ≤ 5 ∧ (Lib.cut l [58]).1.length ≤ 64 ∧ (Lib.split (Lib.cut l [58]).1 [46]).all partOk = true then ((Lib.cut l [58]).1.map lowB, true) else ([], false)
def hostR (l : List UInt8) : ByteArray × Bool := (B (hostS l).1, (hostS l).2)
theorem hostP_is (x4 : ByteArray) (parts : List ByteArray) (n i : Int) (p : List UInt8) (hl : p.length ≤ 4294967296) (r : ByteArray × Bool)
    (h : Ev (fun k => head_HostX.l0 k x4 parts n (wrap64 (i + 1))) r) : ∀ (d j : Nat), j + d = p.length → Ev (fun k => head_HostX.l1 k x4 (B p) parts n i (p.length : Int) (j : Int)) (if ((p.drop j).all hbB && (p != [])) = true then r else (B [], false)) := by
  intro d
  induction d with
  | zero =>
    intro j hj;rw [List.drop_eq_nil_of_le zO, List.all_nil, Bool.true_and];by_cases hp : p = []
    · rw [zn (by simp [hp])];exact Ev.step (fun k => by simp only [head_HostX.l1]; rfl) (Ev.neg zO (Ev.pos (by rw [B_toList]; exact hp) (Ev.ret rfl)))
    rw [zp (by simp [hp])];exact Ev.step (fun k => by simp only [head_HostX.l1]; rfl) (Ev.neg zO (Ev.neg (by rw [B_toList]; exact hp) h))
  | succ d ih =>
    intro j hj;have hr := ih (j + 1) zO;have hw := wrap_succ j zO;rw [← hw] at hr;have hlt : j < p.length := by omega
    have hb := B_bt p j hlt;have hd : p.drop j = p[j] :: p.drop (j + 1) := List.drop_eq_getElem_cons hlt;rw [hd, List.all_cons];refine Ev.step (fun k => by simp only [head_HostX.l1]; rfl) (Ev.pos zO (Ev.pos zO (Ev.pos (by rw [B_size]; omega) ?_)));rw [hb];refine Ev.call (alnum_is _) ?_;cases hA : alB p[j] with
    | true =>
      rw [show hbB p[j] = true by simp [hbB, hA], Bool.true_and];exact Ev.pos rfl hr
    | false =>
      refine Ev.neg (by simp) ?_;by_cases h45 : p[j].toNat = 45
      · rw [show hbB p[j] = true by simp [hbB, h45], Bool.true_and];exact Ev.pos zO hr
      rw [show hbB p[j] = false by simp [hbB, hA, h45], Bool.false_and, Bool.false_and, zn (by simp)];exact Ev.neg zO (Ev.ret rfl)
theorem hostL_is (h : List UInt8) (hh : h.length ≤ 4294967296) (ps : List (List UInt8)) (hps : ps.length ≤ 4294967296) (hb : ∀ p ∈ ps, p.length ≤ 4294967296) :
    ∀ (d i : Nat), i + d = ps.length → Ev (fun k => head_HostX.l0 k (B h) (ps.map B) (ps.length : Int) (i : Int)) (if (ps.drop i).all partOk = true then (B (h.map lowB), true) else (B [], false)) := by
  intro d
  induction d with
  | zero =>
    intro i hi;rw [List.drop_eq_nil_of_le zO, List.all_nil, zp rfl];exact Ev.step (fun k => by simp only [head_HostX.l0]; rfl) (Ev.neg zO (Ev.call (Lower_is h hh) (Ev.ret rfl)))
  | succ d ih =>
    intro i hi;have hw := wrap_succ i zO;have hlt : i < ps.length := by omega
    have h1 := ih (i + 1) zO;rw [← hw] at h1;have hr := hostP_is (B h) (ps.map B) (ps.length : Int) (i : Int) ps[i] (hb _ (List.getElem_mem hlt)) _ h1 ps[i].length 0 zO;have hrd : rdOf ByteArray.empty (ps.map B) (i : Int) = B ps[i] := by simp [rdOf, hlt]
    have hd : ps.drop i = ps[i] :: ps.drop (i + 1) := List.drop_eq_getElem_cons hlt;refine Ev.step (fun k => by simp only [head_HostX.l0]; rfl) (Ev.pos zO (Ev.pos zO (Ev.pos (by rw [List.length_map]; omega) ?_)));rw [hrd, B_size, hd, List.all_cons];rw [List.drop_zero] at hr;refine Ev.res hr ?_
    show (if partOk ps[i] = true then _ else _) = _
    cases partOk ps[i] <;> simp
theorem hostX_is (l : List UInt8) (hl : l.length ≤ 1000000000) (hd : (Lib.cut l [58]).2.1.all digB = true) : Ev (fun k => head_HostX.f k (B l)) (hostR l) := by
  have hc : strings_Cut.f (B l) (⟨#[58]⟩ : ByteArray) = some (B (Lib.cut l [58]).1, B (Lib.cut l [58]).2.1, (Lib.cut l [58]).2.2) := Cut_is l [58] zO;have hle : (Lib.cut l [58]).1.length ≤ l.length := by
    unfold Lib.cut
    split
    · simp;omega
    exact zh _
  unfold hostR hostS;generalize (Lib.cut l [58]).1 = h at hc hle ⊢;generalize (Lib.cut l [58]).2.1 = port at hc hd ⊢;unfold head_HostX.f;by_cases h5 : port.length ≤ 5;rotate_left
  · rw [zn (fun hh => h5 hh.2.1)];exact Ev.call hc (Ev.pos (by rw [B_size]; omega) (Ev.step (fun k => by simp only [head_HostX.j0]; rfl) (Ev.pos (by trivial) (Ev.ret rfl))))
  by_cases h64 : h.length ≤ 64;rotate_left
  · rw [zn (fun hh => h64 hh.2.2.1)];refine Ev.call hc (Ev.neg (by rw [B_size]; omega) ?_);rw [show decide (((B h).size : Int) > 64) = true by rw [B_size]; exact zt zO];exact Ev.step (fun k => by simp only [head_HostX.j0]; rfl) (Ev.pos (by trivial) (Ev.ret rfl))
  refine Ev.call hc (Ev.neg (by rw [B_size]; omega) ?_);rw [show decide (((B h).size : Int) > 64) = false by rw [B_size]; exact zf zO];have hs : strings_Split.f (B h) (⟨#[46]⟩ : ByteArray) = some ((Lib.split h [46]).map B) := Split_is h [46] zO (by decide);obtain ⟨s1, s2⟩ := split_len h [46];have hr := hostL_is h zO (Lib.split h [46]) zO (fun p hp => by have := s2 p hp; omega) (Lib.split h [46]).length 0 zO;rw [List.drop_zero] at hr;refine Ev.step (fun k => by simp only [head_HostX.j0]; rfl) (Ev.neg (by simp) (Ev.call hs ?_));rw [List.length_map];refine Ev.res hr ?_;by_cases hp : (Lib.split h [46]).all partOk = true
  · rw [zp hp, zp ⟨hd, h5, h64, hp⟩]
  rw [zn hp, zn (fun hh => hp hh.2.2.2)]
theorem host_is (l : List UInt8) (hl : l.length ≤ 1000000000) : Ev (fun k => head_Host.f k (B l)) (hostR l) := by
  have hc : strings_Cut.f (B l) (⟨#[58]⟩ : ByteArray) = some (B (Lib.cut l [58]).1, B (Lib.cut l [58]).2.1, (Lib.cut l [58]).2.2) := Cut_is l [58] zO;unfold head_Host.f;by_cases h : (Lib.cut l [58]).2.1.all digB = true
  · exact Ev.call hc (Ev.pos (by rw [B_list]; exact h) (hostX_is l hl h))
  refine Ev.call hc (Ev.neg (by rw [B_list]; exact h) (Ev.ret ?_));unfold hostR hostS;rw [zn (fun hh => h hh.1)];rfl
abbrev Fd := List UInt8 × List UInt8
def sF (f : Fd) : S88 := ⟨B f.1, B f.2⟩
def fOk (hh : List UInt8) (f : Fd) : Bool := tokOk f.1 && decide (f.1.map lowB = f.1) && valOk f.2 && (decide (f.1 ≠ hostL) || decide (hostS f.2 = (hh, true)))
def wOk (m p q hh : List UInt8) (fs : List Fd) : Bool := tokOk m && pathL p && suchL true q && fs.all (fOk hh)
def nh (fs : List Fd) : Nat := fs.countP (fun f => decide (f.1 = hostL))
def wf (f : Fd) : Fd := (f.1, 32 :: f.2)
def writeL (m p q : List UInt8) (fs : List Fd) : List UInt8 := headL m (tgt p q) (fs.map wf)
def szF (fs : List Fd) : Nat := (fs.map (fun f => f.1.length + f.2.length + 4)).sum
theorem flat_len (fs : List Fd) : ((fs.map wf).map lineOf).flatMap (fun a => a ++ [13, 10]) = fs.flatMap (fun f => f.1 ++ 58 :: 32 :: (f.2 ++ [13, 10])) := by
  rw [List.flatMap_map, List.flatMap_map]
  congr 1
  funext f
  simp [lineOf, wf]
theorem writeL_flat (m p q : List UInt8) (fs : List Fd) : writeL m p q fs = (m ++ 32 :: (tgt p q ++ 32 :: (verL ++ [13, 10]))) ++ fs.flatMap (fun f => f.1 ++ 58 :: 32 :: (f.2 ++ [13, 10])) ++ [13, 10] := by
  unfold writeL;rw [head_flat];unfold linesL;rw [List.flatMap_cons, flat_len];simp [firstL]
theorem flat_sz (fs : List Fd) : (fs.flatMap (fun f => f.1 ++ 58 :: 32 :: (f.2 ++ [13, 10]))).length = szF fs := by
  induction fs with
  | nil => rfl
  | cons f fs ih =>
    rw [List.flatMap_cons, List.length_append, ih];simp [szF];omega
theorem writeL_length (m p q : List UInt8) (fs : List Fd) : (writeL m p q fs).length = m.length + (tgt p q).length + 12 + szF fs + 2 := by
  rw [writeL_flat, List.length_append, List.length_append, flat_sz];simp [verL];omega
theorem sz_mem {fs : List Fd} {f : Fd} (hf : f ∈ fs) : f.1.length + f.2.length + 4 ≤ szF fs := by
  induction fs with
  | nil => simp at hf
  | cons g fs ih =>
    rcases List.mem_cons.1 hf with rfl | h
    · simp [szF]
    have := ih h;simp [szF] at this ⊢;omega
theorem fOk_host {hh : List UInt8} {f : Fd} (h : fOk hh f = true) (hn : f.1 = hostL) : hostS f.2 = (hh, true) := by
  simp only [fOk, Bool.and_eq_true, Bool.or_eq_true, decide_eq_true_eq] at h;exact h.2.resolve_left (fun hne => hne hn)
theorem fOk_wf {hh : List UInt8} {f : Fd} (h : fOk hh f = true) (hl : f.1.length + f.2.length ≤ 100000000) : good (wf f) ∧ low (wf f) = f.1 ∧ tv (wf f) = f.2 := by
  simp only [fOk, Bool.and_eq_true, decide_eq_true_eq] at h;obtain ⟨⟨⟨h1, h2⟩, h3⟩, h4⟩ := h;have ht : tv (wf f) = f.2 := trim_val f.2 h3;refine ⟨⟨?_, h1, by rw [ht]; exact h3, ?_⟩, h2, ht⟩
  · simp [lineOf, wf];omega
  have := val_no h3 13 (by decide);simp [wf, this]
theorem nh_hosts {hh : List UInt8} {fs : List Fd} (h : fs.all (fOk hh) = true) : hosts (fs.map wf) = nh fs := by
  unfold hosts nh;rw [List.countP_map];apply List.countP_congr;intro f hf;have h2 := (List.all_eq_true.1 h) f hf;simp only [fOk, Bool.and_eq_true, decide_eq_true_eq] at h2;have : low (wf f) = f.1 := h2.1.1.2;simp [this]
theorem host_of {hh : List UInt8} : ∀ {fs : List Fd} (ho : ByteArray), fs.all (fOk hh) = true → (∀ f ∈ fs, f.1.length + f.2.length ≤ 100000000) → (1 ≤ nh fs ∨ ho = B hh) → hostOf (fun v => (hostR v).1) ho (fs.map wf) = B hh
  | [], ho, _, _, h => by
    rcases h with h | h
    · simp [nh] at h
    exact h
  | f :: fs, ho, hf, hl, h => by
    rw [List.all_cons, Bool.and_eq_true] at hf;obtain ⟨g1, g2, g3⟩ := fOk_wf hf.1 (hl f (by simp));rw [List.map_cons, hostOf, g2, g3];by_cases hn : f.1 = hostL
    · rw [zp hn];refine host_of _ hf.2 (fun x hx => hl x (by simp [hx])) (.inr ?_);unfold hostR;rw [fOk_host hf.1 hn]
    rw [zn hn];refine host_of _ hf.2 (fun x hx => hl x (by simp [hx])) ?_
    rcases h with h | h
    · left
      unfold nh at h ⊢;rwa [List.countP_cons_of_neg (by simpa using hn)] at h
    exact .inr h
theorem tgt_no {p q : List UInt8} (hp : pathL p = true) (hq : suchL true q = true) : (13 : UInt8) ∉ tgt p q ∧ (32 : UInt8) ∉ tgt p q := by
  have hs := (path_such hp).1;have a1 := such_no false p hs 13 (by decide) (by decide) (by decide);have a2 := such_no false p hs 32 (by decide) (by decide) (by decide);have b1 := such_no true q hq 13 (by decide) (by decide) (by decide);have b2 := such_no true q hq 32 (by decide) (by decide) (by decide);unfold tgt
  split <;> simp [a1, a2, b1, b2]
theorem tgt_length (p q : List UInt8) : p.length + q.length ≤ (tgt p q).length := by
  unfold tgt
  split
  · rename_i h
    simp [h]
  simp
theorem parse_write (m p q hh : List UInt8) (fs : List Fd) (z : List UInt8) (hz : z.length ≤ 1000000000) (hw : wOk m p q hh fs = true) (h1 : nh fs = 1) (h32 : fs.length ≤ 32) (hL : (writeL m p q fs).length ≤ 2048) :
    Ev (fun k => head_Parse.f k (bytesOf (B (writeL m p q fs ++ z)))) (B m, B p, B q, B hh, fs.map sF, ((writeL m p q fs).length : Int), 0) := by
  simp only [wOk, Bool.and_eq_true] at hw;obtain ⟨⟨⟨hm, hp⟩, hq⟩, hf⟩ := hw;have hlen := writeL_length m p q fs;have htl := tgt_length p q;have hfl : ∀ f ∈ fs, f.1.length + f.2.length ≤ 100000000 := fun f hfm => by have := sz_mem hfm; omega
  obtain ⟨t13, t32⟩ := tgt_no hp hq;have hg : ∀ f ∈ fs.map wf, good f := by
    intro f hfm;obtain ⟨g, hgm, rfl⟩ := List.mem_map.1 hfm;exact (fOk_wf ((List.all_eq_true.1 hf) g hgm) (hfl g hgm)).1
  have hh' : ∀ f ∈ fs.map wf, low f = hostL → Ev (fun k => head_Host.f k (B (tv f))) ((hostR (tv f)).1, true) := by
    intro f hfm hlow;obtain ⟨g, hgm, rfl⟩ := List.mem_map.1 hfm;obtain ⟨g1, g2, g3⟩ := fOk_wf ((List.all_eq_true.1 hf) g hgm) (hfl g hgm);have hb := fOk_host ((List.all_eq_true.1 hf) g hgm) (g2 ▸ hlow);have := host_is (tv (wf g)) (by rw [g3]; have := hfl g hgm; omega);refine Ev.res this ?_;rw [g3];unfold hostR;rw [hb]
  have h := parse_is m (tgt p q) (B p) (B q) (B []) (fs.map wf) (fun v => (hostR v).1) z hz hm t13 t32 (target_is p q hp hq zO) hg hh' hL (by rw [List.length_map]; omega);rw [nh_hosts hf, h1, host_of _ hf hfl (.inl zO)] at h;have hfld : (fs.map wf).map fld = fs.map sF := by
    rw [List.map_map];apply List.map_congr_left;intro g hgm;obtain ⟨_, g2, g3⟩ := fOk_wf ((List.all_eq_true.1 hf) g hgm) (hfl g hgm)
    show (⟨B (low (wf g)), B (tv (wf g))⟩ : S88) = _
    rw [g2, g3];rfl
  rw [hfld] at h;unfold fin at h;rw [zp rfl, List.length_map, zn zO, zp (B_toList [])] at h;have he : ((writeL m p q fs).length : Int) = ((joinL (linesL m (tgt p q) (fs.map wf))).length : Int) + 4 := by simp [writeL, headL]
  rw [he];exact h
end Go.Proofs.YtpigfccpogmeaaaGreatDoor.HP
end
section
namespace Go.Proofs.YtpigfccpogmeaaaGreatDoor.Yd
open Go.RowKit Go.Proofs.YtpigfccpogmeaaaGreatDoor.S Go.Proofs.YtpigfccpogmeaaaGreatDoorW.PrintWords Go.Proofs.YtpigfccpogmeaaaGreatDoorW.PrintLast Go.Proofs.YtpigfccpogmeaaaGreatDoorW.PrintMore
def own (w : World) (base e : Nat) (v : Value) (n : Nat) (xs : List Value) : Prop :=
  xs.length = n ∧ ((v = .slice none 0 0 ∧ n = 0) ∨
    ∃ g cap cur fz, v = .slice (some ⟨g, 0, none⟩) n cap ∧ base ≤ g ∧ w.heap[g]? = some (.cells cur e fz) ∧ (fz.2 = 0 ∨ cap ≤ fz.1) ∧ n ≤ cap ∧ cap ≤ maxLen ∧ cur.size = cap ∧ cur.toList.take n = xs)
theorem own_move {w w1 : World} {base e n : Nat} {v : Value} {xs : List Value} (h : own w base e v n xs) (hm : ∀ k, v.ownBlock = some k → k < w.heap.size → w1.heap[k]? = w.heap[k]?) : own w1 base e v n xs := by
  obtain ⟨h1, h2⟩ := h;refine ⟨h1, ?_⟩
  rcases h2 with h2 | ⟨g, cap, cur, fz, rfl, hg, hh, r⟩
  · exact .inl h2
  exact .inr ⟨g, cap, cur, fz, rfl, hg, (hm g (by simp [Value.ownBlock]) (Array.getElem?_eq_some_iff.1 hh).1).trans hh, r⟩
theorem own_base {w : World} {base e n : Nat} {v : Value} {xs : List Value} (h : own w base e v n xs) (k : Nat) (hk : v.ownBlock = some k) : base ≤ k := by
  rcases h.2 with ⟨rfl, _⟩ | ⟨g, cap, cur, fz, rfl, hb, _⟩
  · simp [Value.ownBlock] at hk
  have : g = k := by simpa [Value.ownBlock] using hk
  omega
theorem own_cells {w : World} {base e n : Nat} {v : Value} {xs : List Value} (h : own w base e v n xs) {g : Nat} (hg : v.ownBlock = some g) : ∀ j u, xs[j]? = some u → w.cell? ((⟨g, 0, none⟩ : Addr).add j) = some u := by
  intro j u hu
  rcases h.2 with ⟨rfl, _⟩ | ⟨g', cap, cur, fz, rfl, _, hgg, _, _, _, _, htake⟩
  · simp [Value.ownBlock] at hg
  simp [Value.ownBlock] at hg;subst hg;have hadd : (⟨g', 0, none⟩ : Addr).add j = ⟨g', j, none⟩ := by unfold Addr.add; split <;> simp_all
  rw [hadd, cell_of_row w g' j cur e fz hgg];rw [← htake, List.getElem?_take] at hu
  split at hu
  · simpa using hu
  cases hu
theorem run_storeCells_atM (P : Program) (g o : Nat) (t : TypeId) (fz : Nat × Nat) : ∀ (vs : List Value) (i : Nat) (cur : Array Value) (w : World), w.heap[g]? = some (.cells cur t fz) → (fz.2 = 0 ∨ cur.size ≤ fz.1) → o + i + vs.length ≤ cur.size → (∀ v ∈ vs, v.oneCell' = true) →
    (storeCells ⟨g, o, none⟩ vs i).run P w = .ok () (w.setRow g (cur.toList.take (o + i) ++ vs ++ cur.toList.drop (o + i + vs.length)).toArray)
  | [], i, cur, w, hg, _, _, _ => by
    simp only [storeCells, List.append_nil, List.length_nil, Nat.add_zero, List.take_append_drop, Array.toArray_toList];rw [setRow_self w g cur t fz hg];rfl
  | v :: rest, i, cur, w, hg, hfz, hl, h1 => by
    have hi : o + i < cur.size := by simp at hl; omega
    have hadd : (⟨g, o, none⟩ : Addr).add i = ⟨g, o + i, none⟩ := by unfold Addr.add; split <;> simp_all
    have hcell : w.cell? ⟨g, o + i, none⟩ = some cur[o + i] := by simp [World.cell?, hg, hi]
    have hfro : w.frozen? ⟨g, o + i, none⟩ = false := by
      obtain ⟨lo, hi'⟩ := fz;simp only [World.frozen?, hg, Bool.and_eq_false_iff, decide_eq_false_iff_not];simp only at hfz;omega
    have hst : (store ((⟨g, o, none⟩ : Addr).add i) v).run P w = .ok () (w.setRow g (cur.setIfInBounds (o + i) v)) := by
      rw [hadd, run_store P w _ v _ (h1 v (by simp)), hcell];simp [hfro, setCell_eq_setRow w g (o + i) cur t fz v hg]
    have ih := run_storeCells_atM P g o t fz rest (i + 1) (cur.setIfInBounds (o + i) v) (w.setRow g (cur.setIfInBounds (o + i) v)) (setRow_heap w g cur _ t _ hg) (by simpa using hfz) (by simp at hl ⊢; omega) (fun x hx => h1 x (by simp [hx]));simp only [storeCells, Sem.run_bind, hst, Result.andThen_ok, ih, setRow_setRow]
    congr 3
    have e := list_seg_step cur.toList (o + i) v rest (by simp at hl ⊢; omega);simpa [Array.toList_setIfInBounds, Nat.add_assoc] using e
section
variable {P : Program} (w : World)
theorem run_append_room_stringM (t u ty e : TypeId) (i : TypeInfo) (ht : P.underlying t = some (.slice e)) (hu : P.underlying u = some .string) (hi : P.info? e = some i) (hs1 : i.size = 1)
    (g sLen sCap : Nat) (cur : Array Value) (fz : Nat × Nat) (hg : w.heap[g]? = some (.cells cur e fz)) (hfz : fz.2 = 0 ∨ cur.size ≤ fz.1) (s : ByteArray)
    (hroom : sLen + s.size ≤ sCap) (hfit : sLen + s.size ≤ cur.size) :
    (Builtin.append_ #[t, u] ty #[.slice (some ⟨g, 0, none⟩) sLen sCap, .string s]).run P w =
      .ok (.slice (some ⟨g, 0, none⟩) (sLen + s.size) sCap) (w.setRow g (cur.toList.take sLen ++ Lib.strCells s ++ cur.toList.drop (sLen + s.size)).toArray) := by
  have hf := Lib.run_firstCells_string (P := P) w 1 s;have hst := run_storeCells_atM P g sLen e fz (Lib.strCells s) 0 cur w hg hfz (by simpa [Lib.strCells_length] using hfit) (Lib.strCells_oneCell s);simp only [Nat.add_zero, Lib.strCells_length] at hst;simp [Builtin.append_, run_underlying ht, run_underlying hu, sizeOf, typeInfo, hi, hs1, Builtin.lenOf, hroom, hf, Addr.add_lit, hst]
theorem own_of {base e n : Nat} {v : Value} {xs : List Value} (h : w.ownsRow base e 1 v n xs) : own w base e v n xs := by
  refine ⟨by simpa using h.1, ?_⟩
  rcases h.2 with hn | ⟨g, cap, cur, hv, hb, hg, h1, h2, h3, h4⟩
  · exact .inl hn
  exact .inr ⟨g, cap, cur, (0, 0), hv, hb, hg, .inl rfl, h1, h2, by simpa using h3, by simpa using h4⟩
theorem run_append_own_stringM (base : Nat) (t u ty e : TypeId) (i : TypeInfo) (ht : P.underlying t = some (.slice e)) (hu : P.underlying u = some .string) (hi : P.info? e = some i) (hz : i.zero = some (.int .u8 0))
    (hsize : i.size = 1) (hby : i.bytes = 1)
    (v : Value) (n : Nat) (xs : List Value) (hown : own w base e v n xs) (s : ByteArray)
    (h63 : n + s.size ≤ maxLen) (hbytes : n + s.size ≤ 140737488355328) (hbase : base ≤ w.heap.size) :
    ∃ v' w', (Builtin.append_ #[t, u] ty #[v, .string s]).run P w = .ok v' w' ∧ own w' base e v' (n + s.size) (xs ++ Lib.strCells s) ∧ w.grownBy w' v.ownBlock := by
  rcases hown.2 with ⟨rfl, rfl⟩ | ⟨g, cap, cur, fz, rfl, hbg, hg, hfz, hnc, hcm, hcs, htake⟩
  · obtain ⟨v', w', h1, h2, h3, h4⟩ := Lib.run_append_own_string (P := P) w base t u ty e i ht hu hi hz hsize hby (.slice none 0 0) 0 xs ⟨by simpa using hown.1, .inl ⟨rfl, rfl⟩⟩ s h63 hbytes hbase;exact ⟨v', w', h1, own_of _ h2, h3⟩
  have hsmall : n + s.size ≤ 9223372036854775807 := by simp only [maxLen] at h63; omega
  have hxl : xs.length = n := hown.1;have hlen : (xs ++ Lib.strCells s).length = n + s.size := by rw [List.length_append, hxl, Lib.strCells_length]
  by_cases hroom : n + s.size ≤ cap
  · have hr := run_append_room_stringM (P := P) w t u ty e i ht hu hi hsize g n cap cur fz hg (by rw [hcs]; exact hfz) s hroom zO;refine ⟨_, _, hr, ⟨hlen, .inr ⟨g, cap, _, fz, rfl, hbg, setRow_heap w g cur _ e _ hg, hfz, hroom, hcm, ?_, ?_⟩⟩, ⟨rfl, rfl, rfl, by simp, fun k _ hk => setRow_other w g k _ (fun e => hk (by simp [Value.ownBlock, e]))⟩⟩
    · simp only [List.size_toArray, List.length_append, List.length_take, List.length_drop, Array.length_toList, Lib.strCells_length];omega
    rw [htake, ← hlen];exact List.take_left
  have holds : ∀ j u, xs[j]? = some u → w.cell? ((⟨g, 0, none⟩ : Addr).add j) = some u := own_cells hown (g := g) rfl;have hr := Lib.run_append_grow_string (P := P) w t u ty e i (.int .u8 0) ht hu hi hz ⟨g, 0, none⟩ n cap xs (by rw [hsize]; simpa using hxl) holds s zO zO (by rw [hby]; exact growslice_fits zO zO);have hge := grownCap_ge w (n + s.size) cap e;have hcm2 : grownCap w (n + s.size) cap e ≤ maxLen := grownCap_le_maxLen w (n + s.size) cap e h63;refine ⟨_, _, hr, ⟨hlen, .inr ⟨w.heap.size, _, _, (0, 0), rfl, hbase, heap_alloc_new w.drew _, .inl rfl, hge, hcm2, ?_, ?_⟩⟩, ⟨rfl, rfl, rfl, by simp, fun k hk _ => Go.heap_alloc_old w.drew _ hk⟩⟩
  · have hz1 : (Value.int IntKind.u8 0).cells.size = 1 := rfl;simp only [Array.size_append, List.size_toArray, size_zeroCells, hz1, hxl, Lib.strCells_length];omega
  simp only [Array.toList_append, List.append_assoc];rw [← List.append_assoc, ← hlen];exact List.take_left
end
def R (_d : Kd Int) (e : Nat) (w : World) (base : Nat) (ok : Nat → Prop) (v : Value) (xs : List Int) : Prop :=
  (∀ k, v.ownBlock = some k → ok k) ∧ own w base e v xs.length (nums .u8 xs)
section
variable {d : Kd Int} {e : Nat} {w w1 : World} {base base' : Nat} {ok ok' : Nat → Prop} {v : Value} {xs : List Int}
theorem R_nil (d : Kd Int) (e : Nat) (w : World) (base : Nat) (ok : Nat → Prop) : R d e w base ok (.slice none 0 0) [] := ⟨fun k hk => by simp [Value.ownBlock] at hk, rfl, .inl ⟨rfl, rfl⟩⟩
theorem R_mono (h : R d e w base ok v xs) (hok : ∀ k, ok k → ok' k) : R d e w base ok' v xs := ⟨fun k hk => hok k (h.1 k hk), h.2⟩
theorem R_step (h : R d e w base ok v xs) (hm : ∀ k, ok k → k < w.heap.size → w1.heap[k]? = w.heap[k]?) : R d e w1 base ok v xs := ⟨h.1, own_move h.2 (fun k hk hl => hm k (h.1 k hk) hl)⟩
theorem R_below (h : R d e w base ok v xs) (hb : Below w.heap.size w w1) : R d e w1 base ok v xs := R_step h (fun k _ hk => hb.block k hk)
theorem R_far (h : R d e w base ok v xs) {p : Addr} (hok : ∀ k, ok k → k ≠ p.block) (u : Value) : R d e (w.setCell p u) base ok v xs := R_step h (fun k ho _ => Below.heap_setCell w p u k (hok k ho))
theorem R_lower (h : R d e w base ok v xs) (hb : base' ≤ base) : R d e w base' ok v xs := by
  obtain ⟨h0, h1, h2⟩ := h;refine ⟨h0, h1, ?_⟩
  rcases h2 with h2 | ⟨g, cap, cur, fz, hv, hg, r⟩
  · exact .inl h2
  exact .inr ⟨g, cap, cur, fz, hv, Nat.le_trans hb hg, r⟩
theorem R_ne (h : R d e w base ok v xs) {g t : Nat} {cells : Array Value} (hb : w.heap[g]? = some (.cells cells t (0, 0))) (ht : e ≠ t) : some g ≠ v.ownBlock := by
  intro he
  rcases h.2.2 with ⟨rfl, _⟩ | ⟨g', cap, cur, fz, rfl, hg, hh, r⟩
  · simp [Value.ownBlock] at he
  have : g = g' := by simpa [Value.ownBlock] using he
  subst this;rw [hh] at hb;injection hb with hb
  injection hb with _ hb
  exact ht hb
theorem R_types (h : R d e w base ok v xs) {g t : Nat} {cells : Array Value} (hb : w.heap[g]? = some (.cells cells t (0, 0))) (ht : ∀ q, q ∈ e :: (Kd.int .u8).E → q ≠ t) : R d e w base (fun k => ok k ∧ k ≠ g) v xs :=
  ⟨fun k hk => ⟨h.1 k hk, fun hkg => R_ne h hb (ht e (by simp)) (hkg ▸ hk).symm⟩, h.2⟩
theorem R_slice (h : R d e w base ok v xs) : ∃ A c, v = .slice A xs.length c := by
  rcases h.2.2 with ⟨rfl, hn⟩ | ⟨g, cap, cur, fz, rfl, _⟩
  · exact ⟨none, 0, by rw [hn]⟩
  exact ⟨_, _, rfl⟩
theorem R_alloc (h : R d e w base ok v xs) (o : Obj) : R d e (w.alloc o) base ok v xs := R_below h (below_alloc (Below.refl _ _) o)
theorem R_drew (h : R d e w base ok v xs) : R d e w.drew base ok v xs := R_below h (below_drew (Below.refl _ _))
theorem R_drewN (h : R d e w base ok v xs) (m : Nat) : R d e (w.drewN m) base ok v xs := R_below h (pw_below_drewN (Below.refl _ _) m)
theorem own_of_R (h : R d e w base ok v xs) : own w base e v xs.length (nums .u8 xs) := h.2
theorem R_of_own (ho : own w base e v xs.length (nums .u8 xs)) (hok : ∀ k, v.ownBlock = some k → ok k) : R (Kd.int .u8) e w base ok v xs := ⟨hok, ho⟩
theorem R_V (h : R d e w base ok v xs) (hok : ∀ k, base ≤ k → ok' k) : Kd.V (Kd.int .u8) e w base' ok' v xs := by
  rcases h.2.2 with ⟨rfl, hn⟩ | ⟨g, cap, cur, fz, rfl, hg, hh, hf, hnc, hcm, hcs, htake⟩
  · obtain rfl : xs = [] := List.eq_nil_of_length_eq_zero hn;exact Kd.V_nil _ _ _ _ _
  refine Kd.V_mk hnc ?_;intro W' hk;have hlt := (Array.getElem?_eq_some_iff.1 hh).1;have hW : W'.heap[g]? = some (.cells cur e fz) := (hk g (hok g hg) hlt).trans hh;refine Kd.C_of_reads (d := (0 : Int)) (h1 := fun _ => rfl) ⟨rfl, by simp only [maxLen] at hcm; omega, fun _ => ⟨_, rfl, fun j hj => ?_⟩⟩;rw [add_plain];have h2 : cur.toList[j]? = some (.int .u8 xs[j]) := by
    have h3 : (cur.toList.take xs.length)[j]? = (nums .u8 xs)[j]? := by rw [htake]
    rw [List.getElem?_take, zp hj] at h3;rw [h3];simp [nums, hj]
  have h4 : cur[j]? = some (.int .u8 xs[j]) := by simpa using h2
  simp [World.cell?, hW, h4, List.getD_eq_getElem?_getD, hj]
end
theorem R_bytes {P : Program} {ops : Array Oper} {Q : Exit → Act → World → Prop} {o : Oper} {rest : List Oper} {a : Act} {w0 W : World} {s : ByteArray} (base e : Nat) (hgd : o.guard = none) {N : Tmp} (_hd : o.dst = some N) {ok : Nat → Prop}
    (hrun : (execOp a.eval o).run P W = .ok (.value (.slice (some ⟨W.heap.size, 0, none⟩) s.size (grownCap W s.size 0 e))) (Lib.bytesWorld W e s))
    (hfresh : ok W.heap.size) (HB : Below base w0 W) (hbase : base ≤ W.heap.size) (hm : s.size ≤ 9223372036854775807)
    (h : ∀ v1 w1, R (Kd.int .u8) e w1 base ok v1 (bytesOf s) → Below base w0 w1 → True → True → wpList P ops Q rest (a.put o.dst v1) w1) : wpList P ops Q (o :: rest) a W := by
  refine Kd.event_run hgd hrun (h _ _ ⟨fun k hk => ?_, by simp [nums], .inr ?_⟩ (HB.trans ((bytes_below W e s).mono hbase)) trivial trivial)
  · have : W.heap.size = k := by simpa [Value.ownBlock] using hk
    exact this ▸ hfresh
  have hM : (Lib.bytesWorld W e s).heap[W.heap.size]? = some (.cells (s.data.toList.map (fun x : UInt8 => Value.int .u8 (x.toNat : Int)) ++ List.replicate (grownCap W s.size 0 e - s.size) (Value.int .u8 0)).toArray e (s.data.toList.length + (List.replicate (grownCap W s.size 0 e - s.size) (Value.int .u8 0)).length, s.data.toList.length + (List.replicate (grownCap W s.size 0 e - s.size) (Value.int .u8 0)).length + 1)) := by
    rw [Lib.bytesWorld_at_new]
    congr 2
    · apply Array.ext';simp [Lib.bytesCells]
    simp [Lib.bytesCells]
  have hl : s.data.toList.length = s.size := by simp
  have hc := grownCap_ge W s.size 0 e;refine ⟨_, _, _, _, by rw [bytesOf_length], hbase, hM, .inr ?_, by rw [bytesOf_length]; exact hc, grownCap_le_maxLen W s.size 0 e (by simpa [maxLen] using hm), ?_, ?_⟩
  · rw [hl, List.length_replicate]; omega
  · rw [List.size_toArray, List.length_append, List.length_map, hl, List.length_replicate]; omega
  rw [bytesOf_length, ← hl]
  show List.take _ (List.map _ _ ++ _) = _
  rw [List.take_left' (by rw [List.length_map])];simp [nums, bytesOf]
theorem append_str {P : Program} {ops : Array Oper} {rest : List Oper} {o : Oper} {a : Act} {Q : Exit → Act → World → Prop} {w0 W : World} (base : Nat) (hgd : o.guard = none) (s x : Operand) (t u e : TypeId)
    (ho : o.op = .call { callee := .builtin .append, args := #[s, x], argTypes := #[t, u] })
    (ht : P.underlying t = some (.slice e)) (hu : P.underlying u = some .string) (hinfo : (P.info? e).map (fun i => (i.zero, i.size, i.bytes)) = some (some (.int .u8 0), 1, 1))
    (v : Value) (xs : List Int) (y : ByteArray) (hs : a.eval s = v) (hx : a.eval x = .string y)
    (HO : own W base e v xs.length (nums .u8 xs)) (HB : Below base w0 W) (hbase : base ≤ W.heap.size) (hl : xs.length + y.size ≤ 140737488355328)
    (h : ∀ v1 w1, own w1 base e v1 (xs ++ bytesOf y).length (nums .u8 (xs ++ bytesOf y)) → Below base w0 w1 → W.grownBy w1 v.ownBlock → wpList P ops Q rest (a.put o.dst v1) w1) :
    wpList P ops Q (o :: rest) a W := by
  obtain ⟨i0, hi, hzz⟩ := Option.map_eq_some_iff.1 hinfo;simp only [Prod.mk.injEq] at hzz;obtain ⟨hz0, hz1, hz2⟩ := hzz;refine wpList_plain hgd fun K hK => ?_
  obtain ⟨v1, w1, hr, hown, hg⟩ := run_append_own_stringM (P := P) W base t u o.type e i0 ht hu hi hz0 hz1 hz2 v xs.length (nums .u8 xs) HO y (by simp only [maxLen]; omega) hl hbase;unfold Oper.wp execOp;simp only [ho, resolve, invoke, builtin, Sem.run_bind, Sem.run_pure, Result.andThen_ok, List.map_toArray, List.map_cons, List.map_nil, hs, hx, hr];have hl2 : (xs ++ bytesOf y).length = xs.length + y.size := by rw [List.length_append, bytesOf_length]
  have hc : nums .u8 (xs ++ bytesOf y) = nums .u8 xs ++ Lib.strCells y := by
    rw [nums_append]
    congr 1
    simp [nums, bytesOf, Lib.strCells]
  exact hK _ _ (h v1 w1 (by rw [hl2, hc]; exact hown) (HB.grown hg hbase (own_base HO)) hg)
end Go.Proofs.YtpigfccpogmeaaaGreatDoor.Yd
end
