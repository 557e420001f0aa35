/- The walk of the draw of an option that is to be told. -/
import Derived.Test.YtkgbkgonlopciaaD9
namespace Go.Proofs.Ytkgbkgonlopciaa
open Go.RowKit
set_option linter.unusedVariables false
set_option linter.unusedSimpArgs false
/-- this option has been drawn -/
def GivesA (o : OD) (w : World) (e : Ending) (w' : World) : Prop :=
  ∃ iv, e = .returned (vo o iv) ∧ Obs w' w.heap.size 1 iv o.ids.length (o.ids.map vn) ∧ Below w.heap.size w w' ∧ o.wf ∧ o.ids.length ≤ 8
set_option maxRecDepth 100000 in
set_option maxHeartbeats 1600000 in
theorem drawOptText_u (v : Value) (n : Nat) (xs : List Int) (w : World) (hv : Rd w 1 v n (xs.map (Value.int .u8))) (hx : ∀ x ∈ xs, 0 ≤ x ∧ x ≤ 255) (hn : n ≤ 1048576) :
    Calls Try.prog 43 #[v] w (GivesA (anyX xs (newS xs n)).1 w) := by
  obtain ⟨R, hR⟩ : ∃ R, R = anyX xs (newS xs n) := ⟨_, rfl⟩
  rw [← hR]
  obtain ⟨A, cap, rfl, hm⟩ := hv.shape
  have HR := Lib.hid hR
  have HV := Lib.hid hv
  have HX := Lib.hid hx
  clear hR hv hx hm
  go_enter Try.func43, Try.ntmps43
  go_upto_region 1 with (fail)
  obtain ⟨W, hW⟩ : ∃ W, W = w.alloc (.cells (voC (OD.new 0 []) (.slice none 0 0)).toArray 27) := ⟨_, rfl⟩
  change Code.wp _ _ _ _ (w.alloc (.cells (voC (OD.new 0 []) (.slice none 0 0)).toArray 27))
  rw [← hW]
  have E0 := (Below.refl w.heap.size w).alloc (Nat.le_refl _) (.cells (voC (OD.new 0 []) (.slice none 0 0)).toArray 27)
  have X0 := Lib.hid (Blk.new w 27 (voC (OD.new 0 []) (.slice none 0 0)).toArray)
  rw [← hW] at E0 X0
  have L0 := Lib.hid E0
  clear hW E0
  go_wp2_with fail
  refine (new_u _ n xs _ (HV.out.below L0.out) HX.out hn).mono ?_
  rintro e w1 ⟨rfl, hc, hb⟩
  obtain ⟨g, hg⟩ : ∃ g, g = W.heap.size := ⟨_, rfl⟩
  rw [← hg] at hc ⊢
  have C1 := Lib.hid hc
  have X1 := Lib.hid (X0.out.below hb X0.out.lt)
  have L1 := Lib.hid (L0.out.trans (hb.mono L0.out.size))
  have S1 : Hid (w.heap.size < g) := Lib.hid (by rw [hg]; exact X0.out.lt)
  have S2 : Hid (W.heap.size ≤ w1.heap.size) := Lib.hid hb.size
  clear hc hb hg L0 X0
  go_wp2_with fail
  refine (any_u _ n xs (newS xs n) g _ C1.out).mono ?_
  rw [← HR.out]
  rintro e w2 ⟨iv, rfl, ho, hc, hgr, hwf, hid⟩
  clear HR
  obtain ⟨o, s⟩ := R
  dsimp only at ho hc hwf hid ⊢
  obtain ⟨A2, cp, rfl⟩ := ho.shape
  have hlt := S1.out
  have O2 := Lib.hid (ho.mono L1.out.size)
  have O3 : Hid (∀ q, (Value.slice A2 o.ids.length cp).ownBlock = some q → w.heap.size < q) := Lib.hid (fun q hq => by have := (ho.lt q hq).1; have := X1.out.lt; omega)
  have X2 := Lib.hid (X1.out.grew hgr (by omega))
  have L2 := Lib.hid (L1.out.trans (hgr.below L1.out.size (Nat.le_of_lt hlt)))
  have HWF := Lib.hid hwf
  have HID := Lib.hid hid
  have OX := Lib.hid ho
  have SX : Hid (w.heap.size + 1 ≤ w1.heap.size) := Lib.hid X1.out.lt
  clear ho hc hgr hwf hid hlt L1 X1 C1
  go_wp2_with (refine wpl_store_optM (o := o) rfl (by rfl) (by rfl) (by rfl) X2.out rfl ?_)
  refine bodyPost_ret (results_opt rfl (by rfl) (Bx.setCells (vs := voC o (.slice A2 o.ids.length cp)) X2.out rfl)) rfl ?_
  exact ⟨.slice A2 o.ids.length cp, rfl, ((OX.out.mono SX.out).farS (by omega) _ _).mono (by omega), Below.setCells' L2.out (Nat.le_refl _) _ _, HWF.out, HID.out⟩
end Go.Proofs.Ytkgbkgonlopciaa
