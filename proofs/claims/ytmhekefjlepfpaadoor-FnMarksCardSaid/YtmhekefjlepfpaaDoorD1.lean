/- The walks: the cursor of the draws. -/
import Derived.Test.YtmhekefjlepfpaaDoorProg
import Derived.Test.YtmhekefjlepfpaaDoorK
import Derived.Test.YtmhekefjlepfpaaDoorK2
import Derived.Test.YtmhekefjlepfpaaDoorK3
import Derived.Test.YtmhekefjlepfpaaDoorK4
import Derived.StillTailTactics
import Derived.Deep.QuietTactic
import Derived.BigQuiet
import Derived.Outline
namespace Go.Proofs.YtmhekefjlepfpaaDoor
open Go.RowKit
set_option linter.unusedVariables false
set_option linter.unusedSimpArgs false

/-- nothing that was there has changed but block g -/
def Grew (w w' : World) (g : Nat) : Prop := w.grownBy w' (some g)
theorem Grew.refl (w : World) (g : Nat) : Grew w w g := ⟨rfl, rfl, rfl, Nat.le_refl _, fun _ _ _ => rfl⟩
theorem Grew.trans {w w1 w2 : World} {g : Nat} (h : Grew w w1 g) (k : Grew w1 w2 g) : Grew w w2 g :=
  ⟨k.os.trans h.os, k.tape.trans h.tape, k.output.trans h.output, Nat.le_trans h.size k.size, fun b hb hne => (k.block b (Nat.lt_of_lt_of_le hb h.size) hne).trans (h.block b hb hne)⟩
theorem Grew.below {w w' : World} {g B : Nat} (h : Grew w w' g) (hB : B ≤ w.heap.size) (hg : B ≤ g) : Below B w w' :=
  (Below.refl _ _).grown h hB (fun k hk => by cases hk; exact hg)
theorem Grew.of_below {w w' : World} {g : Nat} (h : Below w.heap.size w w') : Grew w w' g := ⟨h.os, h.tape, h.output, h.size, fun b hb _ => h.block b hb⟩
theorem Grew.set_ {w w' : World} {g : Nat} (h : Grew w w' g) (j : Nat) (u : Value) : Grew w (w'.setCell ⟨g, j, none⟩ u) g :=
  ⟨h.os, h.tape, h.output, by have := h.size; simpa [World.setCell] using this, fun k hk hne => (Below.heap_setCell w' ⟨g, j, none⟩ u k (by intro e; exact hne (by rw [e]))).trans (h.block k hk hne)⟩
theorem Grew.drew {w w' : World} {g : Nat} (h : Grew w w' g) : Grew w w'.drew g := ⟨h.os, h.tape, h.output, h.size, h.block⟩
theorem Grew.drewN {w w' : World} {g : Nat} (h : Grew w w' g) (k : Nat) : Grew w (w'.drewN k) g := ⟨h.os, h.tape, h.output, h.size, h.block⟩
theorem Obs.grew {w w' : World} {B size n g : Nat} {v : Value} {xs : List Value} (h : Obs w B size v n xs) (hg : Grew w w' g) (hv : ∀ k, v.ownBlock = some k → k ≠ g) : Obs w' B size v n xs :=
  h.same hg.size (fun k hk => hg.block k (h.lt k hk).2 (by intro e; cases e; exact hv _ hk rfl))
theorem Rd.ne {w : World} {size n : Nat} {v : Value} {xs : List Value} (h : Rd w size v n xs) : 0 < n → ∀ b off m cap, v = .slice (some ⟨b, off, none⟩) m cap → b < w.heap.size := by
  intro h0 b off m cap e
  obtain ⟨b', off', cap', rfl, hb, _⟩ := h.full h0
  simp only [Value.slice.injEq, Option.some.injEq, Addr.mk.injEq] at e
  obtain ⟨⟨rfl, _⟩, _⟩ := e
  exact hb
theorem Rd.grew {w w' : World} {size n g : Nat} {v : Value} {xs : List Value} (h : Rd w size v n xs) (hg : Grew w w' g) (hv : 0 < n → ∀ b off m cap, v = .slice (some ⟨b, off, none⟩) m cap → b ≠ g) : Rd w' size v n xs := by
  refine ⟨h.1, ?_⟩
  rcases h.2 with h2 | ⟨b, off, cap, rfl, hb, hnc, hm, hx⟩
  · exact .inl h2
  · by_cases h0 : n = 0
    · subst h0; exact .inl ⟨_, _, rfl, rfl⟩
    have hblk := hg.block b hb (by intro e; cases e; exact hv (by omega) _ _ _ _ rfl rfl)
    exact .inr ⟨b, off, cap, rfl, Nat.lt_of_lt_of_le hb hg.size, hnc, hm, fun j u hu => (World.cell?_of_block (w := w) (a := ⟨b, off + j, none⟩) hblk).trans (hx j u hu)⟩
theorem Blk.grew {w w' : World} {g g' : Nat} {t : TypeId} {cs : List Value} (h : Blk w g t cs) (hg : Grew w w' g') (hne : g ≠ g') : Blk w' g t cs :=
  (hg.block g h.lt (by intro e; cases e; exact hne rfl)).trans h

/-- block g is a cursor over n bytes -/
def Cur (w : World) (g : Nat) : Prop := ∃ (v : Value) (n : Nat) (xs : List Int) (i : Nat) (h : Int), Blk w g 80 [v, .int .i64 (i : Int), .int .i64 h] ∧ Rd w 1 v n (xs.map (Value.int .u8)) ∧ i ≤ n ∧
  (0 < n → ∀ b off m cap, v = .slice (some ⟨b, off, none⟩) m cap → b < g) ∧ ∀ x ∈ xs, 0 ≤ x ∧ x ≤ 255
theorem Cur.lt {w : World} {g : Nat} (h : Cur w g) : g < w.heap.size := by
  obtain ⟨v, n, xs, i, h, hb, _⟩ := h
  exact hb.lt
theorem Cur.below {w w' : World} {g : Nat} (h : Cur w g) (hb : Below w.heap.size w w') : Cur w' g := by
  obtain ⟨v, n, xs, i, h, h1, h2, h3, h4, h5⟩ := h
  exact ⟨v, n, xs, i, h, h1.below hb h1.lt, h2.below hb, h3, h4, h5⟩
theorem Cur.belowB {w w' : World} {g B : Nat} (h : Cur w g) (hb : Below B w w') (hg : g < B) : Cur w' g := by
  obtain ⟨v, n, xs, i, h, h1, h2, h3, h4, h5⟩ := h
  refine ⟨v, n, xs, i, h, h1.below hb hg, ?_, h3, h4, h5⟩
  refine ⟨h2.1, ?_⟩
  rcases h2.2 with h2' | ⟨b, off, cap, rfl, hb', hnc, hm, hx⟩
  · exact .inl h2'
  · by_cases h0 : n = 0
    · subst h0; exact .inl ⟨_, _, rfl, rfl⟩
    have hbg := h4 (by omega) _ _ _ _ rfl
    exact .inr ⟨b, off, cap, rfl, Nat.lt_of_lt_of_le hb' hb.size, hnc, hm, fun j u hu => (hb.cell (p := ⟨b, off + j, none⟩) (by dsimp only; omega)).trans (hx j u hu)⟩
theorem Grew.below_trans {w w1 w2 : World} {g : Nat} (h : Grew w w1 g) (hb : Below w.heap.size w1 w2) : Grew w w2 g :=
  ⟨hb.os.trans h.os, hb.tape.trans h.tape, hb.output.trans h.output, Nat.le_trans h.size hb.size, fun b hb' hne => (hb.block b hb').trans (h.block b hb' hne)⟩
/-- a number has been drawn -/
def GivesNum (m : Nat) (g : Nat) (w : World) (e : Ending) (w' : World) : Prop := ∃ x : Nat, x < m ∧ e = .returned (.int .i64 (x : Int)) ∧ Cur w' g ∧ Grew w w' g
theorem and255 (a : Int) : ∃ x : Nat, x < 256 ∧ bits BinOp.and IntKind.i64 a 255 = (x : Int) := by
  refine ⟨(BitVec.ofInt 64 a &&& BitVec.ofInt 64 255).toNat, ?_, ?_⟩
  · rw [BitVec.toNat_and]
    exact Nat.and_lt_two_pow (n := 8) _ (by decide)
  · show IntKind.i64.wrap ((BitVec.ofInt 64 a &&& BitVec.ofInt 64 255).toNat : Int) = _
    have : (BitVec.ofInt 64 a &&& BitVec.ofInt 64 255).toNat < 256 := by
      rw [BitVec.toNat_and]
      exact Nat.and_lt_two_pow (n := 8) _ (by decide)
    rw [IntKind.wrap_i64]
    omega

noncomputable def byteOf (a : Int) : Nat := (and255 a).choose
theorem byteOf_lt (a : Int) : byteOf a < 256 := (and255 a).choose_spec.1
theorem byteOf_eq (a : Int) : bits BinOp.and IntKind.i64 a 255 = (byteOf a : Int) := (and255 a).choose_spec.2
set_option maxRecDepth 100000 in
theorem byte_s (g : Nat) (w : World) (hc : Cur w g) : Calls Tryd.prog 93 #[.pointer (some ⟨g, 0, none⟩)] w (GivesNum 256 g w) := by
  obtain ⟨v, n, xs, i, h, h1, h2, h3, h4, h5⟩ := hc
  have hgl := h1.lt
  have c0 : w.cell? ⟨g, 0, none⟩ = some v := h1.cell 0
  have c1 : w.cell? ⟨g, 1, none⟩ = some (.int .i64 (i : Int)) := h1.cell 1
  have c2 : w.cell? ⟨g, 2, none⟩ = some (.int .i64 h) := h1.cell 2
  have f1 := h1.frozen 1
  have f2 := h1.frozen 2
  obtain ⟨A, cap, rfl, hm⟩ := h2.shape
  unfold maxLen at hm
  have H1 := Lib.hid h1
  have H2 := Lib.hid h2
  have H4 := Lib.hid h4
  have H5 := Lib.hid h5
  clear h1 h2 h4 h5
  go_enter Tryd.func93, Tryd.ntmps93
  go_wp2
  obtain ⟨H, hH⟩ : ∃ H, H = wrap64 (wrap64 (h * 6364136223846793005) + 1442695040888963407) := ⟨_, rfl⟩
  rw [← hH]
  have b1 := H1.out.set_ 2 (.int .i64 H)
  have g1 := (Grew.refl w g).set_ 2 (.int .i64 H)
  have r1 := H2.out.grew g1 (fun h0 b o m c e => Nat.ne_of_lt (H4.out h0 b o m c e))
  generalize w.setCell ⟨g, 2, none⟩ (.int .i64 H) = W1 at b1 g1 r1 ⊢
  clear hH c0 c1 c2 f1 f2
  have B1 := Lib.hid b1
  have G1 := Lib.hid g1
  have R1 := Lib.hid r1
  have d0 : W1.cell? ⟨g, 0, none⟩ = some (.slice A n cap) := b1.cell 0
  have d1 : W1.cell? ⟨g, 1, none⟩ = some (.int .i64 (i : Int)) := b1.cell 1
  have d2 : W1.cell? ⟨g, 2, none⟩ = some (.int .i64 H) := b1.cell 2
  clear b1 g1 r1
  refine wp_region_still_lit (by kernel_rfl) (by kernel_rfl) ?_
  change wpStill _ _ (World.drew W1) (fun a' => Exit.then _ _ Exit.normal a' (World.drew W1)) _ _
  repeat still_step
  refine wpStill_nil ?_
  rw [byteOf_eq]
  generalize hx : byteOf _ = x
  have hx256 : x < 256 := by rw [← hx]; exact byteOf_lt _
  clear hx
  by_cases hi : i < n
  · obtain ⟨b, off, cap', he, hbl, hmm, hcc⟩ := R1.out.full (by omega)
    simp only [Value.slice.injEq] at he
    obtain ⟨rfl, _, rfl⟩ := he
    have hxs : xs.length = n := by have := R1.out.len; simpa using this
    have e4 : W1.cell? ⟨b, off + i, none⟩ = some (.int .u8 (xs[i]'(by omega))) := hcc i _ (by simp [hxs, hi])
    have hy := H5.out (xs[i]'(by omega)) (List.getElem_mem _)
    obtain ⟨y, hye⟩ : ∃ y, y = xs[i]'(by omega) := ⟨_, rfl⟩
    rw [← hye] at e4 hy
    obtain ⟨hy0, hy1⟩ := hy
    have fr1 := B1.out.frozen 1
    have hszB := B1.out.lt
    have B2 := Lib.hid (B1.out.set_ 1 (.int .i64 ((i : Int) + 1)))
    have G2 := Lib.hid (G1.out.set_ 1 (.int .i64 ((i : Int) + 1)))
    have R2 := Lib.hid (R1.out.grew ((Grew.refl W1 g).set_ 1 (.int .i64 ((i : Int) + 1))) (fun h0 b o m c e => Nat.ne_of_lt (H4.out h0 b o m c e)))
    clear hye hcc
    go_wp2
    refine wp_region_still_lit (by kernel_rfl) (by kernel_rfl) ?_
    change wpStill _ _ (World.drew (World.drew W1)) (fun a' => Exit.then _ _ Exit.normal a' (World.drew (World.drew W1))) _ _
    repeat still_step
    refine wpStill_nil ?_
    go_wp2
    refine wp_region_still_lit (by kernel_rfl) (by kernel_rfl) ?_
    change wpStill _ _ (World.drew (World.drew (World.drew W1))) (fun a' => Exit.then _ _ Exit.normal a' (World.drew (World.drew (World.drew W1)))) _ _
    repeat still_step
    refine wpStill_nil ?_
    rw [byteOf_eq]
    generalize hz : byteOf _ = z
    have hz256 : z < 256 := by rw [← hz]; exact byteOf_lt _
    clear hz
    go_wp2
    go_ret
    refine ⟨z, hz256, rfl, ⟨_, n, xs, i + 1, H, ?_, R2.out, by omega, H4.out, H5.out⟩, G2.out.drew.drew.drew⟩
    exact B2.out.drew.drew.drew
  · have hni : ¬ (i : Int) < (n : Int) := by omega
    go_wp2
    refine wp_region_still_lit (by kernel_rfl) (by kernel_rfl) ?_
    change wpStill _ _ (World.drew (World.drew W1)) (fun a' => Exit.then _ _ Exit.normal a' (World.drew (World.drew W1))) _ _
    repeat still_step
    refine wpStill_nil ?_
    go_wp2
    go_ret
    exact ⟨x, hx256, rfl, ⟨_, n, xs, i, H, B1.out.drew.drew, R1.out, by omega, H4.out, H5.out⟩, G1.out.drew.drew⟩
theorem and30 (a : Int) : ∃ x : Nat, x < 1073741824 ∧ bits BinOp.and IntKind.i64 a 1073741823 = (x : Int) := by
  have hl : (BitVec.ofInt 64 a &&& BitVec.ofInt 64 1073741823).toNat < 1073741824 := by
    rw [BitVec.toNat_and]
    exact Nat.and_lt_two_pow (n := 30) _ (by decide)
  refine ⟨(BitVec.ofInt 64 a &&& BitVec.ofInt 64 1073741823).toNat, hl, ?_⟩
  show IntKind.i64.wrap ((BitVec.ofInt 64 a &&& BitVec.ofInt 64 1073741823).toNat : Int) = _
  rw [IntKind.wrap_i64]
  omega
noncomputable def maskOf (a : Int) : Nat := (and30 a).choose
theorem maskOf_lt (a : Int) : maskOf a < 1073741824 := (and30 a).choose_spec.1
theorem maskOf_eq (a : Int) : bits BinOp.and IntKind.i64 a 1073741823 = (maskOf a : Int) := (and30 a).choose_spec.2
set_option maxRecDepth 100000 in
theorem new_s (v : Value) (n : Nat) (xs : List Int) (w : World) (hv : Rd w 1 v n (xs.map (Value.int .u8))) (hx : ∀ x ∈ xs, 0 ≤ x ∧ x ≤ 255) (hn : n ≤ 1048576) :
    Calls Tryd.prog 83 #[v] w fun e w' => e = .returned (.pointer (some ⟨w.heap.size, 0, none⟩)) ∧ Cur w' w.heap.size ∧ Below w.heap.size w w' := by
  obtain ⟨A, cap, rfl, hm⟩ := hv.shape
  have HV := Lib.hid hv
  have HX := Lib.hid hx
  have hxs : xs.length = n := by have := hv.len; simpa using this
  have HL := Lib.hid hxs
  clear hv hx hxs hm
  go_enter Tryd.func83, Tryd.ntmps83
  go_wp2
  go_loop [3, 4] (fun h i => ∃ (k H : Nat), k ≤ n ∧ i = .int .i64 (k : Int) ∧ h = .int .i64 (H : Int) ∧ H ≤ 2147483648) (fun _ i => n - (intOf i).toNat)
  case atStart => exact ⟨0, 94701 + n, Nat.zero_le _, rfl, by simp, by omega⟩
  case round =>
    obtain ⟨k, H, hk, rfl, rfl, hH⟩ := hrel
    by_cases hlt : k < n
    · by_cases h4 : k < 4000
      · obtain ⟨b, off, cap', he, hbl, hmm, hcc⟩ := HV.out.full (by omega)
        simp only [Value.slice.injEq] at he
        obtain ⟨rfl, _, rfl⟩ := he
        have hkx : k < xs.length := by have := HL.out; omega
        have e4 : w.cell? ⟨b, off + k, none⟩ = some (.int .u8 (xs[k]'hkx)) := hcc k _ (by simp [hkx])
        have hy := HX.out (xs[k]'hkx) (List.getElem_mem _)
        obtain ⟨y, hye⟩ : ∃ y, y = xs[k]'hkx := ⟨_, rfl⟩
        rw [← hye] at e4 hy
        obtain ⟨hy0, hy1⟩ := hy
        clear hye hcc hkx
        go_wp2
        go_round
        case rel => exact ⟨k + 1, maskOf ((H : Int) * 131 + y + 7), by omega, by go_num, by rw [maskOf_eq], by have := maskOf_lt ((H : Int) * 131 + y + 7); omega⟩
        case measure => simp [intOf]; omega
      · go_wp2
        go_ret
        exact ⟨rfl, ⟨_, n, xs, 0, H, Blk.new w 80 #[.slice A n cap, .int .i64 0, .int .i64 (H : Int)], HV.out.below ((Below.refl _ _).alloc (Nat.le_refl _) _), Nat.zero_le _, HV.out.ne, HX.out⟩, (Below.refl _ _).alloc (Nat.le_refl _) _⟩
    · go_wp2
      go_ret
      exact ⟨rfl, ⟨_, n, xs, 0, H, Blk.new w 80 #[.slice A n cap, .int .i64 0, .int .i64 (H : Int)], HV.out.below ((Below.refl _ _).alloc (Nat.le_refl _) _), Nat.zero_le _, HV.out.ne, HX.out⟩, (Below.refl _ _).alloc (Nat.le_refl _) _⟩
end Go.Proofs.YtmhekefjlepfpaaDoor
