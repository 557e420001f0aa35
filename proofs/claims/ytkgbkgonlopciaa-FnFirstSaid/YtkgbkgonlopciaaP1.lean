/- Options in plain Lean: when one is right, its text, and that its text comes back as the option. -/
import Derived.Test.YtkgbkgonlopciaaK
import Derived.Test.YtkgbkgonlopciaaN
namespace Go.Proofs.Ytkgbkgonlopciaa
open Go.RowKit
set_option linter.unusedVariables false
set_option linter.unusedSimpArgs false

/-- an option's data -/
structure OD where
  k : Int
  id : Int
  ad : Int
  po : Int
  to : Int
  no : Int
  se : Int
  su : Int
  le : Int
  ac : Int
  fl : Bool
  ke : ByteArray
  ma : ByteArray
  ids : List Int
def OD.new (k : Int) (ids : List Int) : OD := ⟨k, 0, 0, 0, 0, 0, 0, 0, 0, 0, false, ⟨#[]⟩, ⟨#[]⟩, ids⟩
def OD.num (o : OD) : Nat → Int
  | 1 => o.id
  | 2 => o.ad
  | 3 => o.po
  | 4 => o.to
  | 5 => o.no
  | 6 => o.se
  | 7 => o.su
  | 8 => o.le
  | 9 => o.ac
  | 10 => if o.fl then 1 else 0
  | _ => 0
def OD.txt (o : OD) (i : Nat) : ByteArray := if i = 11 then o.ke else o.ma
def OD.put (o : OD) (i : Nat) (n : Int) (f : Bool) (t : ByteArray) : OD :=
  match i with
  | 1 => { o with id := n }
  | 2 => { o with ad := n }
  | 3 => { o with po := n }
  | 4 => { o with to := n }
  | 5 => { o with no := n }
  | 6 => { o with se := n }
  | 7 => { o with su := n }
  | 8 => { o with le := n }
  | 9 => { o with ac := n }
  | 10 => { o with fl := f }
  | 11 => { o with ke := t }
  | 12 => { o with ma := t }
  | _ => o
/-- the fields of a kind: cell and width -/
def lay (k : Int) : List (Nat × Nat) :=
  if k = 1 then [(11, 8)] else if k = 2 then [(1, 1), (10, 1), (4, 4), (5, 4)] else if k = 3 then [(1, 1), (10, 1), (12, 8), (5, 4)] else if k = 4 then [(12, 20)]
  else if k = 5 then [(9, 6), (6, 6), (7, 4), (8, 2)] else if k = 6 then [(1, 1), (2, 4), (3, 2), (12, 8)] else if k = 7 then [(1, 1), (2, 4), (3, 2)] else if k = 9 then [(6, 6)] else if k = 10 then [(11, 8)] else []
def used (o : OD) : OD := (lay o.k).foldl (fun u f => u.put f.1 (o.num f.1) o.fl (o.txt f.1)) (OD.new o.k (if o.k = 8 then o.ids else []))
def sameOD (a b : OD) : Bool :=
  a.k == b.k && a.id == b.id && a.ad == b.ad && a.po == b.po && a.to == b.to && a.no == b.no && a.se == b.se && a.su == b.su && a.le == b.le && a.ac == b.ac && a.fl == b.fl && sameB a.ke b.ke && sameB a.ma b.ma && a.ids == b.ids
theorem sameB_iff (a b : ByteArray) : sameB a b = true ↔ a = b := by
  unfold sameB
  rw [beq_iff_eq]
  constructor
  · intro h; cases a; cases b; simp only [ByteArray.mk.injEq]; exact Array.toList_inj.1 h
  · rintro rfl; rfl
theorem sameOD_iff (a b : OD) : sameOD a b = true ↔ a = b := by
  cases a; cases b
  simp only [sameOD, Bool.and_eq_true, beq_iff_eq, sameB_iff, OD.mk.injEq, and_assoc]
def risingL : List Int → Bool
  | a :: b :: r => decide (a < b) && risingL (b :: r)
  | _ => true
def idsOk (l : List Int) : Bool := decide (1 ≤ l.length) && decide (l.length ≤ 8) && risingL l && l.all (fun n => decide (0 ≤ n) && decide (n ≤ 255))
def fieldOk (o : OD) (f : Nat × Nat) : Bool := if f.1 = 10 then true else if f.1 = 11 ∨ f.1 = 12 then decide ((o.txt f.1).size = f.2) else numTextB (o.num f.1) f.2
def optOk (o : OD) : Bool := decide (1 ≤ o.k) && decide (o.k ≤ 10) && sameOD o (used o) && (decide (o.k ≠ 8) || idsOk o.ids) && (lay o.k).all (fieldOk o)
def fieldL (o : OD) (f : Nat × Nat) : List UInt8 := if f.1 = 11 ∨ f.1 = 12 then (o.txt f.1).data.toList else numTextL (o.num f.1) f.2
def bodyL (o : OD) : List UInt8 := o.ids.flatMap (fun n => numTextL n 1) ++ (lay o.k).flatMap (fieldL o)
def optL (o : OD) : List UInt8 := if optOk o then numTextL o.k 1 ++ (numTextL (bodyL o).length 1 ++ bodyL o) else []

def decF (p : Nat → Bool) (b : ByteArray) : List (Nat × Nat) → Nat → OD → Option OD
  | [], _, o => some o
  | f :: r, k, o => if textAtB b k f.2 then decF p b r (k + f.2) (o.put f.1 (numAtN (textAtS b k f.2) 0 f.2) (p (numAtN (textAtS b k f.2) 0 f.2)) (textAtS b k f.2)) else none
def startO (k : Int) (b : ByteArray) : OD := OD.new k (if k = 8 then b.data.toList.map (fun c => (c.toNat : Int)) else [])
def readP (p : Nat → Bool) (s : ByteArray) (a : Int) : Option OD :=
  if numAtB s a 1 && numAtB s (a + 1) 1 && textAtB s (a + 2) (numAtN s (a + 1) 1) then
    match decF p (textAtS s (a + 2) (numAtN s (a + 1) 1)) (lay (numAtN s a 1)) 0 (startO (numAtN s a 1) (textAtS s (a + 2) (numAtN s (a + 1) 1))) with
    | some o => if optL o = (textAtS s a (2 + numAtN s (a + 1) 1)).data.toList then some o else none
    | none => none
  else none

theorem data_len (s : ByteArray) : s.data.toList.length = s.size := by simp
theorem toList_extract (s : ByteArray) (A M : Nat) : (s.extract A (A + M)).data.toList = (s.data.toList.drop A).take M := by
  rw [ByteArray.data_extract, Array.toList_extract, List.extract_eq_take_drop]
  congr 1
  omega
theorem textAtS_list {s : ByteArray} {A M : Nat} (h : A + M ≤ s.size) : (textAtS s A M).data.toList = (s.data.toList.drop A).take M := by
  rw [textAtS_mk h, toList_extract]
theorem pre_size {s : ByteArray} {A : Nat} {l : List UInt8} (h : l <+: s.data.toList.drop A) (hl : l ≠ []) : A + l.length ≤ s.size := by
  have h1 := h.length_le
  have h2 : 0 < l.length := List.length_pos_iff.2 hl
  rw [List.length_drop, data_len] at h1
  omega
theorem pre_text {s : ByteArray} {A : Nat} {l : List UInt8} (h : l <+: s.data.toList.drop A) (hl : A + l.length ≤ s.size) : textAtB s A l.length = true ∧ textAtS s A l.length = str l := by
  refine ⟨textAtB_mk hl, ?_⟩
  have h1 := textAtS_list hl
  rw [← List.prefix_iff_eq_take.1 h] at h1
  rw [← str_of (textAtS s A l.length), h1]
theorem pre_num {s : ByteArray} {A : Nat} {l : List UInt8} (h : l <+: s.data.toList.drop A) (h1 : 1 ≤ l.length) (h6 : l.length ≤ 6) : numAtB s A l.length = true ∧ numAtN s A l.length = ofBe l := by
  have hs := pre_size h (by intro e; subst e; simp at h1)
  obtain ⟨hb, ht⟩ := pre_text h hs
  refine ⟨numAtB_mk h1 h6 hs, ?_⟩
  rw [numAtN_mk h1 h6 hs, ← textAtS_mk hs, ht, str_toList]
theorem ofBe_be (n k : Nat) (h : n < 256 ^ k) : ofBe (be n k) = n := by
  induction k generalizing n with
  | zero => simp at h; subst h; rfl
  | succ k ih =>
    rw [be, ofBe_snoc, ih (n / 256) (by rw [Nat.pow_succ] at h; omega)]
    simp
    omega
theorem put_11 (o : OD) (n n' : Int) (f f' : Bool) (t : ByteArray) : o.put 11 n f t = o.put 11 n' f' t := rfl
/-- a field's text comes back as the field -/
theorem field_back {p : Nat → Bool} (p0 : p 0 = false) (p1 : p 1 = true) {o u : OD} {f : Nat × Nat} (hf : fieldOk o f = true) (hw : 1 ≤ f.2) (h10 : f.1 = 10 → f.2 = 1) :
    (fieldL o f).length = f.2 ∧ u.put f.1 (numAtN (str (fieldL o f)) 0 f.2) (p (numAtN (str (fieldL o f)) 0 f.2)) (str (fieldL o f)) = u.put f.1 (o.num f.1) o.fl (o.txt f.1) := by
  obtain ⟨i, m⟩ := f
  unfold fieldOk at hf
  unfold fieldL
  dsimp only at *
  by_cases h11 : i = 11 ∨ i = 12
  · rw [if_pos h11]
    rw [if_neg (by omega), if_pos h11, decide_eq_true_eq] at hf
    refine ⟨by rw [data_len]; exact hf, ?_⟩
    rw [str_of]
    rcases h11 with rfl | rfl <;> rfl
  · rw [if_neg h11]
    have hnum : numTextB (o.num i) m = true := by
      by_cases hi : i = 10
      · subst hi
        rw [h10 rfl]
        show numTextB (if o.fl then 1 else 0) 1 = true
        cases o.fl <;> decide
      · rw [if_neg hi, if_neg h11] at hf; exact hf
    obtain ⟨N, W, hN, hW, h1, h6, hl⟩ := numTextB_yes hnum
    have hWm : W = m := by omega
    subst hWm
    rw [hN, numTextL_mk h1 h6 hl]
    refine ⟨be_len _ _, ?_⟩
    have hx := (pre_num (s := str (be N W)) (A := 0) (l := be N W) (by rw [str_toList]; simp) (by rw [be_len]; exact h1) (by rw [be_len]; exact h6)).2
    rw [be_len, ofBe_be N W hl] at hx
    rw [show ((0 : Int)) = ((0 : Nat) : Int) from rfl, hx]
    by_cases hi : i = 10
    · subst hi
      show ({ u with fl := p N } : OD) = { u with fl := o.fl }
      unfold OD.num at hN
      cases hfl : o.fl
      · rw [hfl] at hN; simp at hN; rw [show N = 0 by omega, p0]
      · rw [hfl] at hN; simp at hN; rw [show N = 1 by omega, p1]
    · unfold OD.put
      split <;> first | rfl | (exfalso; omega)
theorem decF_back {p : Nat → Bool} (p0 : p 0 = false) (p1 : p 1 = true) {o : OD} (b : ByteArray) : ∀ (L : List (Nat × Nat)) (pos : Nat) (u : OD), (∀ f ∈ L, fieldOk o f = true ∧ 1 ≤ f.2 ∧ (f.1 = 10 → f.2 = 1)) →
    b.data.toList.drop pos = L.flatMap (fieldL o) → decF p b L pos u = some (L.foldl (fun u f => u.put f.1 (o.num f.1) o.fl (o.txt f.1)) u)
  | [], _, _, _, _ => rfl
  | f :: r, pos, u, hL, hb => by
    obtain ⟨h1, h2, h3⟩ := hL f (by simp)
    obtain ⟨hlen, hput⟩ := field_back p0 p1 (u := u) h1 h2 h3
    rw [List.flatMap_cons] at hb
    have hpre : fieldL o f <+: b.data.toList.drop pos := by rw [hb]; exact List.prefix_append _ _
    have hsz := pre_size hpre (by intro e; rw [e] at hlen; simp at hlen; omega)
    obtain ⟨ht, hs⟩ := pre_text hpre hsz
    rw [hlen] at ht hs hsz
    unfold decF
    rw [ht, if_pos rfl, hs, hput, List.foldl_cons]
    refine decF_back p0 p1 b r _ _ (fun g hg => hL g (by simp [hg])) ?_
    rw [← List.drop_drop, hb, ← hlen, List.drop_left]
theorem lay_ok (k : Int) : ∀ f ∈ lay k, 1 ≤ f.2 ∧ (f.1 = 10 → f.2 = 1) ∧ 1 ≤ f.1 ∧ f.1 ≤ 12 ∧ f.2 ≤ 20 := by
  unfold lay
  repeat' split
  all_goals simp
theorem ids_back (l : List Int) (h : l.all (fun n => decide (0 ≤ n) && decide (n ≤ 255)) = true) : (l.flatMap (fun n => numTextL n 1)).map (fun c => (c.toNat : Int)) = l ∧ (l.flatMap (fun n => numTextL n 1)).length = l.length := by
  induction l with
  | nil => simp
  | cons n l ih =>
    simp only [List.all_cons, Bool.and_eq_true, decide_eq_true_eq] at h
    obtain ⟨⟨h0, h1⟩, hr⟩ := h
    obtain ⟨i1, i2⟩ := ih (by simpa using hr)
    obtain ⟨N, rfl⟩ := Int.eq_ofNat_of_zero_le h0
    have hl : numTextL (N : Int) 1 = [UInt8.ofNat N] := by
      have := numTextL_mk (N := N) (W := 1) (by omega) (by omega) (by omega)
      rw [show ((1 : Nat) : Int) = 1 from rfl] at this
      rw [this]
      rfl
    simp only [List.flatMap_cons, hl, List.map_append, i1, List.length_append, i2]
    simp
    omega
theorem body_back {p : Nat → Bool} (p0 : p 0 = false) (p1 : p 1 = true) {o : OD} (h : optOk o = true) : decF p (str (bodyL o)) (lay o.k) 0 (startO o.k (str (bodyL o))) = some o := by
  unfold optOk at h
  simp only [Bool.and_eq_true, decide_eq_true_eq] at h
  obtain ⟨⟨⟨⟨h1, h10⟩, hs⟩, hi⟩, hf⟩ := h
  have hu := (sameOD_iff _ _).1 hs
  by_cases h8 : o.k = 8
  · have hids : idsOk o.ids = true := by simpa [h8] using hi
    unfold idsOk at hids
    simp only [Bool.and_eq_true] at hids
    have hb : bodyL o = o.ids.flatMap (fun n => numTextL n 1) := by unfold bodyL; rw [h8]; simp [lay]
    rw [hb, h8]
    have e : used o = OD.new 8 o.ids := by unfold used; rw [h8]; rfl
    rw [hu, e]
    show some (startO 8 (str ((OD.new 8 o.ids).ids.flatMap (fun n => numTextL n 1)))) = _
    unfold startO
    rw [if_pos rfl, str_toList, show (OD.new 8 o.ids).ids = o.ids from rfl, (ids_back o.ids hids.2).1]
  · have e : o.ids = [] := by
      have h2 := congrArg OD.ids hu
      rw [h2]
      unfold used
      rw [if_neg h8]
      have : ∀ (L : List (Nat × Nat)) (u : OD), (L.foldl (fun u f => u.put f.1 (o.num f.1) o.fl (o.txt f.1)) u).ids = u.ids := by
        intro L
        induction L with
        | nil => intro u; rfl
        | cons f r ih =>
          intro u
          rw [List.foldl_cons, ih]
          unfold OD.put
          split <;> rfl
      rw [this]
      rfl
    have hb : bodyL o = (lay o.k).flatMap (fieldL o) := by unfold bodyL; rw [e]; rfl
    rw [decF_back (o := o) p0 p1 _ (lay o.k) 0 _ (fun f hfm => ⟨List.all_eq_true.1 hf f hfm, (lay_ok _ f hfm).1, (lay_ok _ f hfm).2.1⟩) (by rw [str_toList, List.drop_zero, hb])]
    congr 1
    unfold startO
    rw [if_neg h8]
    conv => rhs; rw [hu]
    unfold used
    rw [if_neg h8]
theorem bodyL_len {o : OD} (h : optOk o = true) : (bodyL o).length ≤ 40 := by
  unfold optOk at h
  simp only [Bool.and_eq_true, decide_eq_true_eq] at h
  obtain ⟨⟨⟨⟨h1, h10⟩, hs⟩, hi⟩, hf⟩ := h
  have hlen : ∀ f ∈ lay o.k, (fieldL o f).length = f.2 := fun f hfm => (field_back (p := fun n => n == 1) rfl rfl (u := o) (List.all_eq_true.1 hf f hfm) (lay_ok _ f hfm).1 (lay_ok _ f hfm).2.1).1
  have hsum : ∀ L : List (Nat × Nat), (∀ f ∈ L, (fieldL o f).length = f.2) → (L.flatMap (fieldL o)).length = (L.map (·.2)).sum := by
    intro L
    induction L with
    | nil => intro _; rfl
    | cons f r ih =>
      intro hL
      simp only [List.flatMap_cons, List.length_append, List.map_cons, List.sum_cons]
      rw [hL f (by simp), ih (fun g hg => hL g (by simp [hg]))]
  have hl20 : ((lay o.k).map (·.2)).sum ≤ 20 := by
    unfold lay
    repeat' split
    all_goals simp
  have hids : (o.ids.flatMap (fun n => numTextL n 1)).length ≤ 8 := by
    by_cases h8 : o.k = 8
    · have hids : idsOk o.ids = true := by simpa [h8] using hi
      unfold idsOk at hids
      simp only [Bool.and_eq_true, decide_eq_true_eq] at hids
      rw [(ids_back o.ids hids.2).2]
      omega
    · have hu := (sameOD_iff _ _).1 hs
      have e : o.ids = [] := by
        have h2 := congrArg OD.ids hu
        rw [h2]
        unfold used
        rw [if_neg h8]
        have : ∀ (L : List (Nat × Nat)) (u : OD), (L.foldl (fun u f => u.put f.1 (o.num f.1) o.fl (o.txt f.1)) u).ids = u.ids := by
          intro L
          induction L with
          | nil => intro u; rfl
          | cons f r ih =>
            intro u
            rw [List.foldl_cons, ih]
            unfold OD.put
            split <;> rfl
        rw [this]
        rfl
      rw [e]; simp
  unfold bodyL
  rw [List.length_append, hsum _ hlen]
  omega
theorem numTextL_one (N : Nat) (h : N < 256) : numTextL (N : Int) 1 = [UInt8.ofNat N] := by
  have := numTextL_mk (N := N) (W := 1) (by omega) (by omega) (by omega)
  rw [show ((1 : Nat) : Int) = 1 from rfl] at this
  rw [this]
  rfl
/-- an option's text is read back, whatever stands around it -/
theorem readP_back {p : Nat → Bool} (p0 : p 0 = false) (p1 : p 1 = true) {o : OD} (h : optOk o = true) {s : ByteArray} {A : Nat} (hp : optL o <+: s.data.toList.drop A) :
    readP p s A = some o ∧ numAtN s (A + 1 : Nat) 1 = (bodyL o).length ∧ (optL o).length = 2 + (bodyL o).length := by
  have h40 := bodyL_len h
  have hk : 1 ≤ o.k ∧ o.k ≤ 10 := by
    unfold optOk at h
    simp only [Bool.and_eq_true, decide_eq_true_eq] at h
    exact h.1.1.1
  obtain ⟨K, hK⟩ := Int.eq_ofNat_of_zero_le (show 0 ≤ o.k by omega)
  have hL : optL o = UInt8.ofNat K :: UInt8.ofNat (bodyL o).length :: bodyL o := by
    unfold optL
    rw [if_pos h, hK, numTextL_one K (by omega), numTextL_one _ (by omega)]
    rfl
  rw [hL] at hp
  obtain ⟨z, hz⟩ := hp
  have p2 : [UInt8.ofNat K] <+: s.data.toList.drop A := ⟨_, by rw [← hz]; rfl⟩
  have p3 : [UInt8.ofNat (bodyL o).length] <+: s.data.toList.drop (A + 1) := ⟨bodyL o ++ z, by rw [← List.drop_drop, ← hz]; rfl⟩
  have p4 : bodyL o <+: s.data.toList.drop (A + 2) := ⟨z, by rw [← List.drop_drop, ← hz]; rfl⟩
  have hsz := pre_size (l := UInt8.ofNat K :: UInt8.ofNat (bodyL o).length :: bodyL o) ⟨z, hz⟩ (by simp)
  obtain ⟨b2, n2⟩ := pre_num p2 (by simp) (by simp)
  obtain ⟨b3, n3⟩ := pre_num p3 (by simp) (by simp)
  obtain ⟨b4, t4⟩ := pre_text p4 (by simp at hsz; omega)
  obtain ⟨_, t5⟩ := pre_text (l := UInt8.ofNat K :: UInt8.ofNat (bodyL o).length :: bodyL o) ⟨z, hz⟩ hsz
  have e2 : ofBe [UInt8.ofNat K] = K := by simp [ofBe]; omega
  have e3 : ofBe [UInt8.ofNat (bodyL o).length] = (bodyL o).length := by simp [ofBe]; omega
  rw [e2] at n2
  rw [e3] at n3
  simp only [List.length_singleton, show ((1 : Nat) : Int) = 1 from rfl] at b2 n2 b3 n3
  refine ⟨?_, n3, by rw [hL]; simp; omega⟩
  unfold readP
  rw [show ((A : Int) + 1) = ((A + 1 : Nat) : Int) by omega, show ((A : Int) + 2) = ((A + 2 : Nat) : Int) by omega]
  rw [b2, b3, n3, n2, b4, t4, ← hK, body_back p0 p1 h, if_pos (by rfl)]
  dsimp only
  rw [if_pos]
  rw [show ((2 : Int) + ((bodyL o).length : Int)) = (((UInt8.ofNat K :: UInt8.ofNat (bodyL o).length :: bodyL o).length : Nat) : Int) by simp; omega, t5, str_toList, hL]
theorem readP_some {p : Nat → Bool} {s : ByteArray} {a : Int} {o : OD} (h : readP p s a = some o) : ∃ A : Nat, a = A ∧ optOk o = true ∧ optL o <+: s.data.toList.drop A ∧ A + 2 + numAtN s (a + 1) 1 ≤ s.size ∧ (optL o).length = 2 + numAtN s (a + 1) 1 := by
  unfold readP at h
  split at h
  · rename_i hb
    simp only [Bool.and_eq_true] at hb
    obtain ⟨⟨b1, b2⟩, b3⟩ := hb
    obtain ⟨A, M, rfl, hM, h1, h6, hs⟩ := numAtB_yes b1
    refine ⟨A, rfl, ?_⟩
    split at h
    · rename_i o' ho'
      split at h
      · rename_i he
        simp only [Option.some.injEq] at h
        subst h
        have hs2 : A + 2 + numAtN s (A + 1) 1 ≤ s.size := by
          obtain ⟨A2, M2, e1, e2, hs2⟩ := textAtB_yes b3
          omega
        rw [show ((2 : Int) + (numAtN s ((A : Int) + 1) 1 : Int)) = ((2 + numAtN s ((A : Int) + 1) 1 : Nat) : Int) by omega, textAtS_list (by omega)] at he
        have hlen := congrArg List.length he
        rw [List.length_take, List.length_drop] at hlen
        have hd : s.data.toList.length = s.size := data_len s
        refine ⟨?_, by rw [he]; exact List.take_prefix _ _, hs2, by omega⟩
        cases hok : optOk o'
        · unfold optL at hlen
          rw [hok] at hlen
          simp at hlen
          omega
        · rfl
      · cases h
    · cases h
  · cases h
/-- how the flag is read does not matter -/
theorem readP_same {p q : Nat → Bool} (p0 : p 0 = false) (p1 : p 1 = true) (q0 : q 0 = false) (q1 : q 1 = true) (s : ByteArray) (a : Int) : readP p s a = readP q s a := by
  cases h : readP p s a with
  | some o =>
    obtain ⟨A, rfl, ho, hp, _⟩ := readP_some h
    exact (readP_back q0 q1 ho hp).1.symm
  | none =>
    cases h2 : readP q s a with
    | none => rfl
    | some o =>
      obtain ⟨A, rfl, ho, hp, _⟩ := readP_some h2
      rw [(readP_back p0 p1 ho hp).1] at h
      cases h
end Go.Proofs.Ytkgbkgonlopciaa
