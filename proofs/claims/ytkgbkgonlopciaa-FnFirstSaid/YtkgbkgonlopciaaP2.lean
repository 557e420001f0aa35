/- Segments in plain Lean: when one is right, its text, and that the two readings agree. -/
import Derived.Test.YtkgbkgonlopciaaP1
namespace Go.Proofs.Ytkgbkgonlopciaa
open Go.RowKit
set_option linter.unusedVariables false
set_option linter.unusedSimpArgs false

/-- a segment's data -/
structure SD where
  fr : Int
  tt : Int
  po : Int
  pe : Int
  sq : Int
  ak : Int
  fg : Int
  ops : List OD
  da : ByteArray
def inB (n a b : Int) : Bool := decide (a ≤ n) && decide (n ≤ b)
def segOk (x : SD) : Bool :=
  inB x.fr 0 4294967295 && inB x.tt 0 4294967295 && inB x.sq 0 4294967295 && inB x.ak 0 4294967295 && inB x.po 0 65535 && inB x.pe 0 65535 && inB x.fg 0 15 && decide (x.ops.length ≤ 4) && decide (x.da.size ≤ 120) && x.ops.all optOk
def segL (x : SD) : List UInt8 :=
  if segOk x then numTextL x.fr 4 ++ (numTextL x.tt 4 ++ (numTextL x.po 2 ++ (numTextL x.pe 2 ++ (numTextL x.sq 4 ++ (numTextL x.ak 4 ++ (numTextL x.fg 1 ++ (numTextL x.ops.length 1 ++ (x.ops.flatMap optL ++ (numTextL x.da.size 2 ++ x.da.data.toList)))))))))
  else []
def readO (s : ByteArray) (a : Int) : Option OD := readP (fun n => n == 1) s a
/-- the first i options of a segment's text, and the place behind them -/
def readN (s : ByteArray) : Nat → Option (List OD × Nat)
  | 0 => some ([], 22)
  | i + 1 => match readN s i with
    | some r => match readO s r.2 with
      | some o => some (r.1 ++ [o], r.2 + (optL o).length)
      | none => none
    | none => none
def segOf (s : ByteArray) (os : List OD) (d : ByteArray) : SD := ⟨numAtN s 0 4, numAtN s 4 4, numAtN s 8 2, numAtN s 10 2, numAtN s 12 4, numAtN s 16 4, numAtN s 20 1, os, d⟩
def tailB (s : ByteArray) (at_ : Nat) : Bool := numAtB s at_ 2 && textAtB s (at_ + 2 : Nat) (numAtN s at_ 2)
def readSI (s : ByteArray) : Option SD :=
  if 22 ≤ s.size then
    match readN s (numAtN s 21 1) with
    | some r => if tailB s r.2 = true ∧ segL (segOf s r.1 (textAtS s (r.2 + 2 : Nat) (numAtN s r.2 2))) = s.data.toList then some (segOf s r.1 (textAtS s (r.2 + 2 : Nat) (numAtN s r.2 2))) else none
    | none => none
  else none
def readSS (s : ByteArray) : Option SD :=
  if 22 ≤ s.size then
    match readN s (min (numAtN s 21 1) 5) with
    | some r => if tailB s r.2 = true ∧ r.2 + 2 + numAtN s r.2 2 = s.size ∧ segOk (segOf s r.1 (textAtS s (r.2 + 2 : Nat) (numAtN s r.2 2))) = true ∧ r.1.length = numAtN s 21 1 then some (segOf s r.1 (textAtS s (r.2 + 2 : Nat) (numAtN s r.2 2))) else none
    | none => none
  else none

theorem pre_app {s : List UInt8} {A : Nat} {a b : List UInt8} (h : a ++ b <+: s.drop A) : a <+: s.drop A ∧ b <+: s.drop (A + a.length) := by
  obtain ⟨z, hz⟩ := h
  refine ⟨⟨b ++ z, by rw [← hz]; simp⟩, ⟨z, ?_⟩⟩
  rw [← List.drop_drop, ← hz, List.append_assoc, List.drop_left]
theorem pre_join {s : List UInt8} {A : Nat} {a b : List UInt8} (h : a <+: s.drop A) (k : b <+: s.drop (A + a.length)) : a ++ b <+: s.drop A := by
  obtain ⟨z, hz⟩ := h
  obtain ⟨y, hy⟩ := k
  refine ⟨y, ?_⟩
  rw [← hz, List.append_assoc]
  congr 1
  rw [← List.drop_drop, ← hz, List.drop_left] at hy
  exact hy
theorem be_ofBe (l : List UInt8) : be (ofBe l) l.length = l := by
  have h : ∀ n, ∀ l : List UInt8, l.length = n → be (ofBe l) n = l := by
    intro n
    induction n with
    | zero => intro l hl; rw [List.eq_nil_of_length_eq_zero hl]; rfl
    | succ n ih =>
      intro l hl
      have hne : l ≠ [] := by intro e; rw [e] at hl; cases hl
      have e : l = l.dropLast ++ [l.getLast hne] := (List.dropLast_concat_getLast hne).symm
      have hb := (l.getLast hne).toNat_lt
      rw [e, ofBe_snoc, be]
      have h1 : (ofBe l.dropLast * 256 + (l.getLast hne).toNat) / 256 = ofBe l.dropLast := by omega
      rw [h1, ih l.dropLast (by rw [List.length_dropLast]; omega)]
      congr 2
      apply UInt8.toNat_inj.1
      simp
  exact h _ l rfl
theorem take_len {s : ByteArray} {A W : Nat} (h : A + W ≤ s.size) : ((s.data.toList.drop A).take W).length = W := by
  rw [List.length_take, List.length_drop, data_len]; omega
/-- a number's bytes stand where it was read -/
theorem num_pre {s : ByteArray} {A W : Nat} (h1 : 1 ≤ W) (h6 : W ≤ 6) (h : A + W ≤ s.size) : numTextL (numAtN s A W) W <+: s.data.toList.drop A ∧ (numTextL (numAtN s A W) W).length = W ∧ numAtN s A W < 256 ^ W := by
  have e := numAtN_mk h1 h6 h
  rw [toList_extract] at e
  have hl := take_len h
  have hlt : numAtN s A W < 256 ^ W := by rw [e]; have := ofBe_lt ((s.data.toList.drop A).take W); rw [hl] at this; exact this
  have e2 : numTextL (numAtN s A W) W = (s.data.toList.drop A).take W := by
    rw [numTextL_mk h1 h6 hlt, e]
    have := be_ofBe ((s.data.toList.drop A).take W)
    rw [hl] at this
    exact this
  rw [e2]
  exact ⟨List.take_prefix _ _, hl, hlt⟩
theorem readN_some {s : ByteArray} : ∀ {i : Nat} {r : List OD × Nat}, readN s i = some r → r.1.length = i ∧ r.2 = 22 + (r.1.flatMap optL).length ∧ r.1.flatMap optL <+: s.data.toList.drop 22 ∧ r.1.all optOk = true ∧ (i = 0 ∨ r.2 ≤ s.size)
  | 0, r, h => by
    simp only [readN, Option.some.injEq] at h
    subst h
    simp
  | i + 1, r, h => by
    unfold readN at h
    split at h
    · rename_i q hq
      split at h
      · rename_i o ho
        simp only [Option.some.injEq] at h
        subst h
        obtain ⟨h1, h2, h3, h4, _⟩ := readN_some hq
        obtain ⟨A, hA, hok, hp, hsz, hlen⟩ := readP_some ho
        have hA2 : A = q.2 := by omega
        subst hA2
        rw [h2] at hp
        refine ⟨by simp [h1], by simp [h2]; omega, ?_, by simp [hok]; simpa using h4, .inr (by dsimp only; omega)⟩
        rw [List.flatMap_append]
        refine pre_join h3 ?_
        simpa using hp
      · cases h
    · cases h
theorem readN_back {s : ByteArray} {os : List OD} (hok : os.all optOk = true) (hp : os.flatMap optL <+: s.data.toList.drop 22) : ∀ i, i ≤ os.length → readN s i = some (os.take i, 22 + ((os.take i).flatMap optL).length)
  | 0, _ => by simp [readN]
  | i + 1, h => by
    have ho : optOk (os[i]'(by omega)) = true := List.all_eq_true.1 hok _ (List.getElem_mem _)
    have e : os.take (i + 1) = os.take i ++ [os[i]'(by omega)] := List.take_succ_eq_append_getElem (by omega)
    have hp2 : optL (os[i]'(by omega)) <+: s.data.toList.drop (22 + ((os.take i).flatMap optL).length) := by
      have h2 : os.flatMap optL = (os.take i).flatMap optL ++ (optL (os[i]'(by omega)) ++ (os.drop (i + 1)).flatMap optL) := by
        conv => lhs; rw [← List.take_append_drop i os, List.flatMap_append, List.drop_eq_getElem_cons (by omega), List.flatMap_cons]
      rw [h2] at hp
      exact (pre_app (pre_app hp).2).1
    unfold readN
    rw [readN_back hok hp i (by omega)]
    dsimp only
    rw [show readO s ((22 + ((os.take i).flatMap optL).length : Nat) : Int) = some (os[i]'(by omega)) from (readP_back rfl rfl ho hp2).1]
    dsimp only
    rw [e, List.flatMap_append]
    simp
    omega
theorem inB_iff {n a b : Int} : inB n a b = true ↔ a ≤ n ∧ n ≤ b := by unfold inB; simp
/-- what a right segment's text reads as, whatever stands behind it -/
theorem seg_back {x : SD} (hx : segOk x = true) {s : ByteArray} (hp : segL x <+: s.data.toList) :
    22 ≤ s.size ∧ numAtN s 21 1 = x.ops.length ∧ ∃ B : Nat, readN s x.ops.length = some (x.ops, B) ∧ tailB s B = true ∧ numAtN s B 2 = x.da.size ∧ segOf s x.ops (textAtS s (B + 2 : Nat) (numAtN s B 2)) = x ∧ B + 2 + x.da.size = (segL x).length := by
  have hL : segL x = numTextL x.fr 4 ++ (numTextL x.tt 4 ++ (numTextL x.po 2 ++ (numTextL x.pe 2 ++ (numTextL x.sq 4 ++ (numTextL x.ak 4 ++ (numTextL x.fg 1 ++ (numTextL x.ops.length 1 ++ (x.ops.flatMap optL ++ (numTextL x.da.size 2 ++ x.da.data.toList))))))))) := by unfold segL; rw [if_pos hx]
  have hx2 := hx
  unfold segOk at hx2
  simp only [Bool.and_eq_true, inB_iff, decide_eq_true_eq] at hx2
  obtain ⟨⟨⟨⟨⟨⟨⟨⟨⟨a1, a2⟩, a3⟩, a4⟩, a5⟩, a6⟩, a7⟩, a8⟩, a9⟩, a10⟩ := hx2
  obtain ⟨fr, tt, po, pe, sq, ak, fg, ops, da⟩ := x
  dsimp only at *
  obtain ⟨N1, rfl⟩ := Int.eq_ofNat_of_zero_le a1.1
  obtain ⟨N2, rfl⟩ := Int.eq_ofNat_of_zero_le a2.1
  obtain ⟨N3, rfl⟩ := Int.eq_ofNat_of_zero_le a5.1
  obtain ⟨N4, rfl⟩ := Int.eq_ofNat_of_zero_le a6.1
  obtain ⟨N5, rfl⟩ := Int.eq_ofNat_of_zero_le a3.1
  obtain ⟨N6, rfl⟩ := Int.eq_ofNat_of_zero_le a4.1
  obtain ⟨N7, rfl⟩ := Int.eq_ofNat_of_zero_le a7.1
  have two : ∀ N W : Nat, 1 ≤ W → W ≤ 6 → N < 256 ^ W → numTextL (N : Int) (W : Int) = be N W := fun N W h1 h6 h => numTextL_mk h1 h6 h
  have e1 := two N1 4 (by omega) (by omega) (by omega)
  have e2 := two N2 4 (by omega) (by omega) (by omega)
  have e3 := two N3 2 (by omega) (by omega) (by omega)
  have e4 := two N4 2 (by omega) (by omega) (by omega)
  have e5 := two N5 4 (by omega) (by omega) (by omega)
  have e6 := two N6 4 (by omega) (by omega) (by omega)
  have e7 := two N7 1 (by omega) (by omega) (by omega)
  have e8 := two ops.length 1 (by omega) (by omega) (by omega)
  have e9 := two da.size 2 (by omega) (by omega) (by omega)
  simp only [show ((4 : Nat) : Int) = 4 from rfl, show ((2 : Nat) : Int) = 2 from rfl, show ((1 : Nat) : Int) = 1 from rfl] at e1 e2 e3 e4 e5 e6 e7 e8 e9
  rw [e1, e2, e3, e4, e5, e6, e7, e8, e9] at hL
  rw [hL] at hp
  rw [show s.data.toList = s.data.toList.drop 0 by simp] at hp
  obtain ⟨p1, hp⟩ := pre_app hp
  obtain ⟨p2, hp⟩ := pre_app hp
  obtain ⟨p3, hp⟩ := pre_app hp
  obtain ⟨p4, hp⟩ := pre_app hp
  obtain ⟨p5, hp⟩ := pre_app hp
  obtain ⟨p6, hp⟩ := pre_app hp
  obtain ⟨p7, hp⟩ := pre_app hp
  obtain ⟨p8, hp⟩ := pre_app hp
  obtain ⟨p9, hp⟩ := pre_app hp
  obtain ⟨p10, p11⟩ := pre_app hp
  simp only [be_len, Nat.zero_add, Nat.reduceAdd] at p2 p3 p4 p5 p6 p7 p8 p9 p10 p11
  have num : ∀ (A W N : Nat), be N W <+: s.data.toList.drop A → 1 ≤ W → W ≤ 6 → N < 256 ^ W → numAtB s A W = true ∧ numAtN s A W = N ∧ A + W ≤ s.size := by
    intro A W N h h1 h6 hN
    have h3 := pre_num h (by rw [be_len]; exact h1) (by rw [be_len]; exact h6)
    have h4 := pre_size h (by intro e; have := congrArg List.length e; rw [be_len] at this; simp at this; omega)
    rw [be_len] at h3 h4
    rw [ofBe_be N W hN] at h3
    exact ⟨h3.1, h3.2, h4⟩
  have q1 : numAtB s 0 4 = true ∧ numAtN s 0 4 = N1 ∧ 0 + 4 ≤ s.size := num 0 4 N1 p1 (by omega) (by omega) (by omega)
  have q2 : numAtB s 4 4 = true ∧ numAtN s 4 4 = N2 ∧ 4 + 4 ≤ s.size := num 4 4 N2 p2 (by omega) (by omega) (by omega)
  have q3 : numAtB s 8 2 = true ∧ numAtN s 8 2 = N3 ∧ 8 + 2 ≤ s.size := num 8 2 N3 p3 (by omega) (by omega) (by omega)
  have q4 : numAtB s 10 2 = true ∧ numAtN s 10 2 = N4 ∧ 10 + 2 ≤ s.size := num 10 2 N4 p4 (by omega) (by omega) (by omega)
  have q5 : numAtB s 12 4 = true ∧ numAtN s 12 4 = N5 ∧ 12 + 4 ≤ s.size := num 12 4 N5 p5 (by omega) (by omega) (by omega)
  have q6 : numAtB s 16 4 = true ∧ numAtN s 16 4 = N6 ∧ 16 + 4 ≤ s.size := num 16 4 N6 p6 (by omega) (by omega) (by omega)
  have q7 : numAtB s 20 1 = true ∧ numAtN s 20 1 = N7 ∧ 20 + 1 ≤ s.size := num 20 1 N7 p7 (by omega) (by omega) (by omega)
  have q8 : numAtB s 21 1 = true ∧ numAtN s 21 1 = ops.length ∧ 21 + 1 ≤ s.size := num 21 1 ops.length p8 (by omega) (by omega) (by omega)
  have q10 : numAtB s ((22 + (ops.flatMap optL).length : Nat) : Int) 2 = true ∧ numAtN s ((22 + (ops.flatMap optL).length : Nat) : Int) 2 = da.size ∧ 22 + (ops.flatMap optL).length + 2 ≤ s.size := num _ 2 da.size p10 (by omega) (by omega) (by omega)
  have hsz : 22 + (ops.flatMap optL).length + 2 + da.data.toList.length ≤ s.size := by
    by_cases e : da.data.toList = []
    · rw [e, List.length_nil]; omega
    · exact pre_size p11 e
  have q11 := pre_text p11 hsz
  rw [data_len] at q11
  refine ⟨by omega, q8.2.1, 22 + (ops.flatMap optL).length, ?_, ?_, q10.2.1, ?_, ?_⟩
  · have := readN_back (by simpa using a10) p9 ops.length (Nat.le_refl _)
    rw [List.take_length] at this
    exact this
  · unfold tailB
    have h2 := q10.2.1
    rw [h2, q11.1, Bool.and_true]
    exact q10.1
  · have h2 := q10.2.1
    rw [h2, q11.2, str_of]
    unfold segOf
    rw [q1.2.1, q2.2.1, q3.2.1, q4.2.1, q5.2.1, q6.2.1, q7.2.1]
  · rw [hL]
    simp only [List.length_append, be_len, data_len]
    omega
/-- the reference's reading hands back a right segment with that text -/
theorem readSS_some {s : ByteArray} {x : SD} (h : readSS s = some x) : segOk x = true ∧ segL x = s.data.toList := by
  unfold readSS at h
  split at h
  · rename_i h22
    split at h
    · rename_i r hr
      split at h
      · rename_i hc
        obtain ⟨ht, hsz, hok, hlen⟩ := hc
        simp only [Option.some.injEq] at h
        obtain ⟨r1, r2, r3, r4, _⟩ := readN_some hr
        subst h
        refine ⟨hok, ?_⟩
        have num : ∀ (A W : Nat), 1 ≤ W → W ≤ 6 → A + W ≤ s.size → numTextL (numAtN s A W) W <+: s.data.toList.drop A ∧ (numTextL (numAtN s A W) W).length = W := fun A W h1 h6 h => ⟨(num_pre h1 h6 h).1, (num_pre h1 h6 h).2.1⟩
        have q1 : numTextL (numAtN s 0 4) 4 <+: s.data.toList.drop 0 ∧ (numTextL (numAtN s 0 4) 4).length = 4 := num 0 4 (by omega) (by omega) (by omega)
        have q2 : numTextL (numAtN s 4 4) 4 <+: s.data.toList.drop 4 ∧ (numTextL (numAtN s 4 4) 4).length = 4 := num 4 4 (by omega) (by omega) (by omega)
        have q3 : numTextL (numAtN s 8 2) 2 <+: s.data.toList.drop 8 ∧ (numTextL (numAtN s 8 2) 2).length = 2 := num 8 2 (by omega) (by omega) (by omega)
        have q4 : numTextL (numAtN s 10 2) 2 <+: s.data.toList.drop 10 ∧ (numTextL (numAtN s 10 2) 2).length = 2 := num 10 2 (by omega) (by omega) (by omega)
        have q5 : numTextL (numAtN s 12 4) 4 <+: s.data.toList.drop 12 ∧ (numTextL (numAtN s 12 4) 4).length = 4 := num 12 4 (by omega) (by omega) (by omega)
        have q6 : numTextL (numAtN s 16 4) 4 <+: s.data.toList.drop 16 ∧ (numTextL (numAtN s 16 4) 4).length = 4 := num 16 4 (by omega) (by omega) (by omega)
        have q7 : numTextL (numAtN s 20 1) 1 <+: s.data.toList.drop 20 ∧ (numTextL (numAtN s 20 1) 1).length = 1 := num 20 1 (by omega) (by omega) (by omega)
        have q8 : numTextL (numAtN s 21 1) 1 <+: s.data.toList.drop 21 ∧ (numTextL (numAtN s 21 1) 1).length = 1 := num 21 1 (by omega) (by omega) (by omega)
        have q10 : numTextL (numAtN s r.2 2) 2 <+: s.data.toList.drop r.2 ∧ (numTextL (numAtN s r.2 2) 2).length = 2 := num r.2 2 (by omega) (by omega) (by omega)
        have hd : (textAtS s ((r.2 + 2 : Nat) : Int) (numAtN s r.2 2)).data.toList = (s.data.toList.drop (r.2 + 2)).take (numAtN s r.2 2) := textAtS_list (by omega)
        have hds : (textAtS s ((r.2 + 2 : Nat) : Int) (numAtN s r.2 2)).size = numAtN s r.2 2 := by rw [← data_len, hd, take_len (by omega)]
        have q11 : (textAtS s ((r.2 + 2 : Nat) : Int) (numAtN s r.2 2)).data.toList <+: s.data.toList.drop (r.2 + 2) := by rw [hd]; exact List.take_prefix _ _
        have hL : segL (segOf s r.1 (textAtS s ((r.2 + 2 : Nat) : Int) (numAtN s r.2 2))) = numTextL (numAtN s 0 4) 4 ++ (numTextL (numAtN s 4 4) 4 ++ (numTextL (numAtN s 8 2) 2 ++ (numTextL (numAtN s 10 2) 2 ++ (numTextL (numAtN s 12 4) 4 ++ (numTextL (numAtN s 16 4) 4 ++ (numTextL (numAtN s 20 1) 1 ++ (numTextL (numAtN s 21 1) 1 ++ (r.1.flatMap optL ++ (numTextL (numAtN s r.2 2) 2 ++ (textAtS s ((r.2 + 2 : Nat) : Int) (numAtN s r.2 2)).data.toList))))))))) := by
          unfold segL
          rw [if_pos hok]
          show numTextL (numAtN s 0 4) 4 ++ (numTextL (numAtN s 4 4) 4 ++ (numTextL (numAtN s 8 2) 2 ++ (numTextL (numAtN s 10 2) 2 ++ (numTextL (numAtN s 12 4) 4 ++ (numTextL (numAtN s 16 4) 4 ++ (numTextL (numAtN s 20 1) 1 ++ (numTextL r.1.length 1 ++ (r.1.flatMap optL ++ (numTextL (textAtS s ((r.2 + 2 : Nat) : Int) (numAtN s r.2 2)).size 2 ++ (textAtS s ((r.2 + 2 : Nat) : Int) (numAtN s r.2 2)).data.toList))))))))) = _
          rw [hlen, hds]
        have hpre : segL (segOf s r.1 (textAtS s ((r.2 + 2 : Nat) : Int) (numAtN s r.2 2))) <+: s.data.toList.drop 0 := by
          rw [hL]
          refine pre_join q1.1 (pre_join ?_ (pre_join ?_ (pre_join ?_ (pre_join ?_ (pre_join ?_ (pre_join ?_ (pre_join ?_ (pre_join ?_ (pre_join ?_ ?_))))))))) <;> simp only [q1.2, q2.2, q3.2, q4.2, q5.2, q6.2, q7.2, q8.2, q10.2, Nat.zero_add, Nat.reduceAdd]
          · exact q2.1
          · exact q3.1
          · exact q4.1
          · exact q5.1
          · exact q6.1
          · exact q7.1
          · exact q8.1
          · exact r3
          · rw [← r2]; exact q10.1
          · rw [← r2]; exact q11
        rw [List.drop_zero] at hpre
        refine hpre.eq_of_length ?_
        rw [hL]
        simp only [List.length_append, q1.2, q2.2, q3.2, q4.2, q5.2, q6.2, q7.2, q8.2, q10.2, hd, data_len, take_len (show r.2 + 2 + numAtN s r.2 2 ≤ s.size by omega)]
        omega
      · cases h
    · cases h
  · cases h
theorem readSI_some {s : ByteArray} {x : SD} (h : readSI s = some x) : segOk x = true ∧ segL x = s.data.toList := by
  unfold readSI at h
  split at h
  · rename_i h22
    split at h
    · rename_i r hr
      split at h
      · rename_i hc
        simp only [Option.some.injEq] at h
        subst h
        refine ⟨?_, hc.2⟩
        cases hk : segOk (segOf s r.1 (textAtS s ((r.2 + 2 : Nat) : Int) (numAtN s r.2 2)))
        · exfalso
          have h2 := hc.2
          unfold segL at h2
          rw [hk] at h2
          have := congrArg List.length h2
          rw [data_len] at this
          simp at this
          omega
        · rfl
      · cases h
    · cases h
  · cases h
theorem readSI_back {s : ByteArray} {x : SD} (hx : segOk x = true) (h : segL x = s.data.toList) : readSI s = some x := by
  obtain ⟨h22, hn, B, hr, ht, hd, he, hB⟩ := seg_back hx (s := s) (by rw [h]; exact List.prefix_rfl)
  unfold readSI
  rw [if_pos h22, hn, hr]
  dsimp only
  rw [he, if_pos ⟨ht, h⟩]
theorem readSS_back {s : ByteArray} {x : SD} (hx : segOk x = true) (h : segL x = s.data.toList) : readSS s = some x := by
  obtain ⟨h22, hn, B, hr, ht, hd, he, hB⟩ := seg_back hx (s := s) (by rw [h]; exact List.prefix_rfl)
  have h4 : x.ops.length ≤ 4 := by
    unfold segOk at hx
    simp only [Bool.and_eq_true, decide_eq_true_eq] at hx
    exact hx.1.1.2
  unfold readSS
  rw [if_pos h22, hn, Nat.min_eq_left (by omega), hr]
  dsimp only
  rw [he, if_pos ⟨ht, by rw [hd, hB, h, data_len], hx, rfl⟩]
theorem read_same (s : ByteArray) : readSI s = readSS s := by
  cases h : readSI s with
  | some x => exact (readSS_back (readSI_some h).1 (readSI_some h).2).symm
  | none =>
    cases h2 : readSS s with
    | none => rfl
    | some x => rw [readSI_back (readSS_some h2).1 (readSS_some h2).2] at h; cases h
/-- no right segment's text is the beginning of another's -/
theorem seg_only {x y : SD} (hx : segOk x = true) (hy : segOk y = true) (h : segL x <+: segL y) : x = y := by
  obtain ⟨_, n1, B1, r1, _, d1, e1, l1⟩ := seg_back hx (s := str (segL y)) (by rw [str_toList]; exact h)
  obtain ⟨_, n2, B2, r2, _, d2, e2, l2⟩ := seg_back hy (s := str (segL y)) (by rw [str_toList]; exact List.prefix_rfl)
  rw [n1] at n2
  rw [n2] at r1
  rw [r1] at r2
  simp only [Option.some.injEq, Prod.mk.injEq] at r2
  exact e1.symm.trans (by rw [r2.1, r2.2]; exact e2)
theorem readSI_more {x : SD} (hx : segOk x = true) (z : UInt8) : readSI (str (segL x ++ [z])) = none := by
  cases h : readSI (str (segL x ++ [z])) with
  | none => rfl
  | some y =>
    obtain ⟨hy, he⟩ := readSI_some h
    rw [str_toList] at he
    have := seg_only hx hy (by rw [he]; exact List.prefix_append _ _)
    subst this
    have := congrArg List.length he
    simp at this
theorem readSI_less {x : SD} (hx : segOk x = true) : readSI (str ((segL x).take ((segL x).length - 1))) = none := by
  cases h : readSI (str ((segL x).take ((segL x).length - 1))) with
  | none => rfl
  | some y =>
    obtain ⟨hy, he⟩ := readSI_some h
    rw [str_toList] at he
    have hne : 22 ≤ (segL x).length := by
      have := (seg_back hx (s := str (segL x)) (by rw [str_toList]; exact List.prefix_rfl)).1
      rwa [str_size] at this
    have := seg_only hy hx (by rw [he]; exact List.take_prefix _ _)
    subst this
    have := congrArg List.length he
    rw [List.length_take] at this
    omega
end Go.Proofs.Ytkgbkgonlopciaa
