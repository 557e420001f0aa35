/- The walks of the laws' helpers: options sized, copied, compared. -/
import Derived.Test.YtkgbkgonlopciaaProg
import Derived.Test.YtkgbkgonlopciaaK
import Derived.Test.YtkgbkgonlopciaaK2
import Derived.Test.YtkgbkgonlopciaaK4
import Derived.Test.YtkgbkgonlopciaaP1
import Derived.Test.YtkgbkgonlopciaaM1
namespace Go.Proofs.Ytkgbkgonlopciaa
open Go.RowKit
set_option linter.unusedVariables false
set_option linter.unusedSimpArgs false
/-- an option as a value; iv: the slice of its numbers -/
def vo (o : OD) (iv : Value) : Value := .agg #[.int .i64 o.k, .int .i64 o.id, .int .i64 o.ad, .int .i64 o.po, .int .i64 o.to, .int .i64 o.no, .int .i64 o.se, .int .i64 o.su, .int .i64 o.le, .int .i64 o.ac, .bool o.fl, .string o.ke, .string o.ma, iv]
/-- how many bytes and numbers an option holds -/
def szO (o : OD) : Nat := o.ke.size + o.ma.size + o.ids.length
theorem rd_ids {w : World} {iv : Value} {n : Nat} {ids : List Int} (h : Rd w 1 iv n (ids.map vn)) : n = ids.length := by have := h.len; simpa using this.symm
set_option maxRecDepth 100000 in
theorem szIntS_l (v : Value) (n : Nat) (xs : List Value) (k : Nat) (w : World) (hv : Rd w 1 v n xs) (hk : k ≤ 9223372036854775807) (hn : n ≤ k) :
    Calls Try.prog 52 #[v, .int .i64 (k : Int)] w fun e w' => e = .returned (.int .i64 ((k - n : Nat) : Int)) ∧ w = w' := by
  obtain ⟨A, cap, rfl, hm⟩ := hv.shape
  have e : (k : Int) - (n : Int) = ((k - n : Nat) : Int) := by omega
  clear hv
  go_enter Try.func52, Try.ntmps52
  go_wp2
  go_ret
  exact ⟨ret_int (by omega), rfl⟩
set_option maxRecDepth 100000 in
theorem szIntS_l_big (v : Value) (n : Nat) (xs : List Value) (k : Nat) (w : World) (hv : Rd w 1 v n xs) (hk : k ≤ 9223372036854775807) (hn : k < n) :
    Calls Try.prog 52 #[v, .int .i64 (k : Int)] w fun e w' => e = .returned (.int .i64 (-1)) ∧ w = w' := by
  obtain ⟨A, cap, rfl, hm⟩ := hv.shape
  unfold maxLen at hm
  clear hv
  go_enter Try.func52, Try.ntmps52
  go_wp2
  go_ret
  exact ⟨rfl, rfl⟩
set_option maxRecDepth 100000 in
theorem szOpt_l (o : OD) (iv : Value) (n : Nat) (k : Nat) (w : World) (hv : Rd w 1 iv n (o.ids.map vn)) (hk : k ≤ 9223372036854775807) (hn : szO o ≤ k) :
    Calls Try.prog 16 #[vo o iv, .int .i64 (k : Int)] w fun e w' => e = .returned (.int .i64 ((k - szO o : Nat) : Int)) ∧ Below w.heap.size w w' := by
  have hnn := rd_ids hv
  obtain ⟨ko, id, ad, po, to, no, se, su, le, ac, fl, ke, ma, ids⟩ := o
  unfold szO at hn ⊢
  unfold vo
  dsimp only at *
  have HV := Lib.hid hv
  clear hv
  obtain ⟨a, ha⟩ : ∃ a, a = k - ke.size := ⟨_, rfl⟩
  obtain ⟨b, hb⟩ : ∃ b, b = k - ke.size - ma.size := ⟨_, rfl⟩
  have e1 : (k : Int) - (ke.size : Int) = (a : Int) := by omega
  have e2 : (a : Int) - (ma.size : Int) = (b : Int) := by omega
  have HE : Hid (k - (ke.size + ma.size + ids.length) = b - n) := Lib.hid (by omega)
  have hbn : n ≤ b := by omega
  clear ha hb hnn
  have hbk : b ≤ 9223372036854775807 := by omega
  have hB := Lib.hid ((Below.refl w.heap.size w).alloc (Nat.le_refl _) (.cells #[.int .i64 ko, .int .i64 id, .int .i64 ad, .int .i64 po, .int .i64 to, .int .i64 no, .int .i64 se, .int .i64 su, .int .i64 le, .int .i64 ac, .bool fl, .string ke, .string ma, iv] 24))
  obtain ⟨c, hc⟩ : ∃ c, c = b - n := ⟨_, rfl⟩
  rw [HE.out]
  go_enter Try.func16, Try.ntmps16
  go_wp2_with fail
  refine (szIntS_l iv n _ b _ (HV.out.below hB.out) hbk hbn).mono ?_
  rintro e w1 ⟨rfl, rfl⟩
  go_wp2
  go_ret
  exact ⟨rfl, hB.out⟩
set_option maxRecDepth 100000 in
theorem szOpt_l_big (o : OD) (iv : Value) (n : Nat) (k : Nat) (w : World) (hv : Rd w 1 iv n (o.ids.map vn)) (hk : k ≤ 9223372036854775807) (hke : o.ke.size ≤ 9223372036854775807) (hma : o.ma.size ≤ 9223372036854775807) (hn : k < szO o) :
    Calls Try.prog 16 #[vo o iv, .int .i64 (k : Int)] w fun e w' => e = .returned (.int .i64 (-1)) ∧ Below w.heap.size w w' := by
  have hnn := rd_ids hv
  obtain ⟨ko, id, ad, po, to, no, se, su, le, ac, fl, ke, ma, ids⟩ := o
  unfold szO at hn
  unfold vo
  dsimp only at *
  have HV := Lib.hid hv
  clear hv
  have hB := Lib.hid ((Below.refl w.heap.size w).alloc (Nat.le_refl _) (.cells #[.int .i64 ko, .int .i64 id, .int .i64 ad, .int .i64 po, .int .i64 to, .int .i64 no, .int .i64 se, .int .i64 su, .int .i64 le, .int .i64 ac, .bool fl, .string ke, .string ma, iv] 24))
  by_cases c1 : k < ke.size
  · clear hnn hn
    go_enter Try.func16, Try.ntmps16
    go_wp2
    go_ret
    exact ⟨rfl, hB.out⟩
  obtain ⟨a, ha⟩ : ∃ a, a = k - ke.size := ⟨_, rfl⟩
  have e1 : (k : Int) - (ke.size : Int) = (a : Int) := by omega
  by_cases c2 : a < ma.size
  · clear hnn hn ha
    go_enter Try.func16, Try.ntmps16
    go_wp2
    go_ret
    exact ⟨rfl, hB.out⟩
  obtain ⟨b, hb⟩ : ∃ b, b = a - ma.size := ⟨_, rfl⟩
  have e2 : (a : Int) - (ma.size : Int) = (b : Int) := by omega
  have hbn : b < n := by omega
  have hbk : b ≤ 9223372036854775807 := by omega
  clear ha hb hnn hn
  go_enter Try.func16, Try.ntmps16
  go_wp2_with fail
  refine (szIntS_l_big iv n _ b _ (HV.out.below hB.out) hbk hbn).mono ?_
  rintro e w1 ⟨rfl, rfl⟩
  go_wp2
  go_ret
  exact ⟨rfl, hB.out⟩
theorem Obs.far {w : World} {B size n : Nat} {v : Value} {xs : List Value} {p : Addr} (h : Obs w B size v n xs) (hp : p.block < B) (u : Value) : Obs (w.setCell p u) B size v n xs :=
  h.same (by simp [World.setCell]) (fun g hg => Below.heap_setCell w p u g (by have := (h.lt g hg).1; omega))
/-- the call hands back the option, its numbers in memory of their own -/
def GivesOpt (o : OD) (w : World) (e : Ending) (w' : World) : Prop := ∃ iv, e = .returned (vo o iv) ∧ Obs w' w.heap.size 1 iv o.ids.length (o.ids.map vn) ∧ Below w.heap.size w w'
set_option maxRecDepth 100000 in
set_option maxHeartbeats 1600000 in
theorem toOpt_l (o : OD) (iv : Value) (n : Nat) (w : World) (hv : Rd w 1 iv n (o.ids.map vn)) (hn : n ≤ 4294967296) :
    Calls Try.prog 18 #[vo o iv] w (GivesOpt o w) := by
  have hnn := rd_ids hv
  obtain ⟨ko, id, ad, po, to, no, se, su, le, ac, fl, ke, ma, ids⟩ := o
  unfold vo
  dsimp only at *
  have HV := Lib.hid hv
  have HN := Lib.hid hnn
  clear hv hnn
  go_enter Try.func18, Try.ntmps18
  have hB := Lib.hid ((((Below.refl w.heap.size w).alloc (Nat.le_refl _) (.cells #[.int .i64 ko, .int .i64 id, .int .i64 ad, .int .i64 po, .int .i64 to, .int .i64 no, .int .i64 se, .int .i64 su, .int .i64 le, .int .i64 ac, .bool fl, .string ke, .string ma, iv] 24)).alloc (by simp)
    (.cells #[.int .i64 0, .int .i64 0, .int .i64 0, .int .i64 0, .int .i64 0, .int .i64 0, .int .i64 0, .int .i64 0, .int .i64 0, .int .i64 0, .bool false, .string ⟨#[]⟩, .string ⟨#[]⟩, .slice none 0 0] 27)).alloc (by simp; omega)
    (.cells #[.int .i64 ko, .int .i64 id, .int .i64 ad, .int .i64 po, .int .i64 to, .int .i64 no, .int .i64 se, .int .i64 su, .int .i64 le, .int .i64 ac, .bool fl, .string ke, .string ma, .slice none 0 0] 27))
  go_wp2_with fail
  refine (toIntS_l iv n ids _ (HV.out.below hB.out) hn).mono ?_
  rintro e w1 ⟨iv', rfl, ho, hb⟩
  have HO := Lib.hid ho
  have HB := Lib.hid hb
  obtain ⟨hc, hf⟩ := Below.bcell hb
  clear ho hb
  obtain ⟨A, ca, rfl⟩ := HO.out.shape
  have hnn := HN.out
  subst hnn
  go_wp2
  simp only [bodyPost, results, Try.results18]
  go_simp
  refine ⟨.slice A ids.length ca, rfl, ?_, ?_⟩
  · have h0 := HO.out
    simp only [World.size_alloc] at h0
    refine Obs.mono (B := w.heap.size + 1 + 1 + 1) ?_ (by omega)
    repeat refine Obs.far ?_ (by dsimp only; omega) _
    exact h0
  · repeat refine Below.setCell ?_ (by dsimp only; omega) _
    exact hB.out.trans (HB.out.mono (by simp; omega))
set_option maxRecDepth 100000 in
set_option maxHeartbeats 1600000 in
theorem eqOpt_l (o : OD) (i1 i2 : Value) (n : Nat) (w : World) (h1 : Rd w 1 i1 n (o.ids.map vn)) (h2 : Rd w 1 i2 n (o.ids.map vn)) :
    Calls Try.prog 20 #[vo o i1, vo o i2] w fun e w' => e = .returned (.bool true) ∧ Below w.heap.size w w' := by
  obtain ⟨ko, id, ad, po, to, no, se, su, le, ac, fl, ke, ma, ids⟩ := o
  unfold vo
  dsimp only at *
  have H1 := Lib.hid h1
  have H2 := Lib.hid h2
  clear h1 h2
  have hB := Lib.hid (((Below.refl w.heap.size w).alloc (Nat.le_refl _) (.cells #[.int .i64 ko, .int .i64 id, .int .i64 ad, .int .i64 po, .int .i64 to, .int .i64 no, .int .i64 se, .int .i64 su, .int .i64 le, .int .i64 ac, .bool fl, .string ke, .string ma, i1] 27)).alloc (by simp)
    (.cells #[.int .i64 ko, .int .i64 id, .int .i64 ad, .int .i64 po, .int .i64 to, .int .i64 no, .int .i64 se, .int .i64 su, .int .i64 le, .int .i64 ac, .bool fl, .string ke, .string ma, i2] 27))
  go_enter Try.func20, Try.ntmps20
  go_wp2_with fail
  refine (eqIntS_l i1 i2 n ids _ (H1.out.below hB.out) (H2.out.below hB.out)).mono ?_
  rintro e w1 ⟨rfl, hb⟩
  have HB := Lib.hid hb
  clear hb
  go_wp2
  go_ret
  exact ⟨rfl, hB.out.trans (HB.out.mono (by simp; omega))⟩
end Go.Proofs.Ytkgbkgonlopciaa
