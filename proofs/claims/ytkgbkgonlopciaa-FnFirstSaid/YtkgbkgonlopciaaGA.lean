/- The walks: the cursor of the draws, told exactly. The walks: long texts, picks, drawn texts, told exactly. The walk of the draw of a right option. The walks: drawn texts. The walk of the draw of any option. The walk of the draw of an option that is to be told. -/
import Derived.Test.YtkgbkgonlopciaaD1
import Derived.Deep.Cut
import Derived.Test.YtkgbkgonlopciaaA27
import Derived.Outline
import Derived.Deep.QuietTactic
import Derived.BigQuiet
import Derived.Deep.RegionHeld
namespace Go.Proofs.Ytkgbkgonlopciaa
open Go.RowKit
set_option linter.unusedVariables false
set_option linter.unusedSimpArgs false
/-- block g is a cursor over these bytes, at this place with this number -/
def CurS (v : Value) (n : Nat) (xs : List Int) (w : World) (g : Nat) (st : Nat × Int) : Prop := Blk w g 102 [v, .int .i64 (st.1 : Int), .int .i64 st.2] ∧ Rd w 1 v n (xs.map (Value.int .u8)) ∧ st.1 ≤ n ∧
  (0 < n → ∀ b off m cap, v = .slice (some ⟨b, off, none⟩) m cap → b < g) ∧ ∀ x ∈ xs, 0 ≤ x ∧ x ≤ 255
theorem CurS.lt {v : Value} {n : Nat} {xs : List Int} {w : World} {g : Nat} {st : Nat × Int} (h : CurS v n xs w g st) : g < w.heap.size := h.1.lt
theorem CurS.below {v : Value} {n : Nat} {xs : List Int} {w w' : World} {g : Nat} {st : Nat × Int} (h : CurS v n xs w g st) (hb : Below w.heap.size w w') : CurS v n xs w' g st :=
  ⟨h.1.below hb h.1.lt, h.2.1.below hb, h.2.2⟩
theorem CurS.belowB {v : Value} {n : Nat} {xs : List Int} {w w' : World} {g B : Nat} {st : Nat × Int} (h : CurS v n xs w g st) (hb : Below B w w') (hg : g < B) : CurS v n xs w' g st := by
  obtain ⟨h1, h2, h3, h4, h5⟩ := h
  refine ⟨h1.below hb hg, ⟨h2.1, ?_⟩, h3, h4, h5⟩
  rcases h2.2 with h2' | ⟨b, off, cap, rfl, hb', hnc, hm, hx⟩
  · exact .inl h2'
  · by_cases h0 : n = 0
    · subst h0; exact .inl ⟨_, _, rfl, rfl⟩
    have hbg := h4 (by omega) _ _ _ _ rfl
    exact .inr ⟨b, off, cap, rfl, Nat.lt_of_lt_of_le hb' hb.size, hnc, hm, fun j u hu => (hb.cell (p := ⟨b, off + j, none⟩) (by dsimp only; omega)).trans (hx j u hu)⟩
def stepH (h : Int) : Int := wrap64 (wrap64 (h * 6364136223846793005) + 1442695040888963407)
noncomputable def byte0 (h : Int) : Nat := byteOf (bits BinOp.xor IntKind.i64 (h / 8589934592) (h / 35184372088832))
noncomputable def byteX (xs : List Int) (st : Nat × Int) : Nat :=
  if st.1 < xs.length then byteOf (IntKind.i64.wrap ((byte0 (stepH st.2) : Int) + IntKind.i64.wrap (xs.getD st.1 0))) else byte0 (stepH st.2)
def byteN (xs : List Int) (st : Nat × Int) : Nat × Int := (if st.1 < xs.length then st.1 + 1 else st.1, stepH st.2)
theorem byteX_lt (xs : List Int) (st : Nat × Int) : byteX xs st < 256 := by
  unfold byteX byte0
  split <;> exact byteOf_lt _
/-- the call hands back this number and leaves the cursor in this state -/
def GivesXn (v : Value) (n : Nat) (xs : List Int) (x : Nat) (st : Nat × Int) (g : Nat) (w : World) (e : Ending) (w' : World) : Prop := e = .returned (.int .i64 (x : Int)) ∧ CurS v n xs w' g st ∧ Grew w w' g
set_option maxRecDepth 100000 in
theorem byte_u (v : Value) (n : Nat) (xs : List Int) (st : Nat × Int) (g : Nat) (w : World) (hc : CurS v n xs w g st) : Calls Try.prog 95 #[.pointer (some ⟨g, 0, none⟩)] w (GivesXn v n xs (byteX xs st) (byteN xs st) g w) := by
  obtain ⟨X, hX⟩ : ∃ X, X = byteX xs st := ⟨_, rfl⟩
  obtain ⟨S, hS⟩ : ∃ S, S = byteN xs st := ⟨_, rfl⟩
  rw [← hX, ← hS]
  have HX := Lib.hid hX
  have HS := Lib.hid hS
  clear hX hS
  obtain ⟨i, h⟩ := st
  obtain ⟨h1, h2, h3, h4, h5⟩ := hc
  dsimp only at h1 h3
  have hgl := h1.lt
  have c0 : w.cell? ⟨g, 0, none⟩ = some v := h1.cell 0
  have c1 : w.cell? ⟨g, 1, none⟩ = some (.int .i64 (i : Int)) := h1.cell 1
  have c2 : w.cell? ⟨g, 2, none⟩ = some (.int .i64 h) := h1.cell 2
  have f1 := h1.frozen 1
  have f2 := h1.frozen 2
  obtain ⟨A, cap, rfl, hm⟩ := h2.shape
  unfold maxLen at hm
  have H1 := Lib.hid h1
  have H2 := Lib.hid h2
  have H4 := Lib.hid h4
  have H5 := Lib.hid h5
  clear h1 h2 h4 h5
  go_enter Try.func95, Try.ntmps95
  go_wp2
  obtain ⟨H, hH⟩ : ∃ H, H = wrap64 (wrap64 (h * 6364136223846793005) + 1442695040888963407) := ⟨_, rfl⟩
  rw [← hH]
  have HH : Hid (H = stepH h) := Lib.hid hH
  have b1 := H1.out.set_ 2 (.int .i64 H)
  have g1 := (Grew.refl w g).set_ 2 (.int .i64 H)
  have r1 := H2.out.grew g1 (fun h0 b o m c e => Nat.ne_of_lt (H4.out h0 b o m c e))
  generalize w.setCell ⟨g, 2, none⟩ (.int .i64 H) = W1 at b1 g1 r1 ⊢
  clear hH c0 c1 c2 f1 f2
  have B1 := Lib.hid b1
  have G1 := Lib.hid g1
  have R1 := Lib.hid r1
  have d0 : W1.cell? ⟨g, 0, none⟩ = some (.slice A n cap) := b1.cell 0
  have d1 : W1.cell? ⟨g, 1, none⟩ = some (.int .i64 (i : Int)) := b1.cell 1
  have d2 : W1.cell? ⟨g, 2, none⟩ = some (.int .i64 H) := b1.cell 2
  clear b1 g1 r1
  refine wp_region_still_lit (by kernel_rfl) (by kernel_rfl) ?_
  change wpStill _ _ (World.drew W1) (fun a' => Exit.then _ _ Exit.normal a' (World.drew W1)) _ _
  repeat still_step
  refine wpStill_nil ?_
  rw [byteOf_eq]
  generalize hx : byteOf _ = x
  have HX0 : Hid (x = byte0 (stepH h)) := Lib.hid (by rw [← HH.out]; exact hx.symm)
  have hx256 : x < 256 := by rw [← hx]; exact byteOf_lt _
  clear hx
  have hxs : Hid (xs.length = n) := Lib.hid (by have := R1.out.len; simpa using this)
  by_cases hi : i < n
  · obtain ⟨b, off, cap', he, hbl, hmm, hcc⟩ := R1.out.full (by omega)
    simp only [Value.slice.injEq] at he
    obtain ⟨rfl, _, rfl⟩ := he
    have hxs' := hxs.out
    have e4 : W1.cell? ⟨b, off + i, none⟩ = some (.int .u8 (xs[i]'(by omega))) := hcc i _ (by simp [hxs', hi])
    have hy := H5.out (xs[i]'(by omega)) (List.getElem_mem _)
    obtain ⟨y, hye⟩ : ∃ y, y = xs[i]'(by omega) := ⟨_, rfl⟩
    rw [← hye] at e4 hy
    have HYG : Hid (y = xs.getD i 0) := Lib.hid (by rw [hye, List.getD_eq_getElem?_getD, List.getElem?_eq_getElem (by omega)]; rfl)
    obtain ⟨hy0, hy1⟩ := hy
    have fr1 := B1.out.frozen 1
    have hszB := B1.out.lt
    have B2 := Lib.hid (B1.out.set_ 1 (.int .i64 ((i : Int) + 1)))
    have G2 := Lib.hid (G1.out.set_ 1 (.int .i64 ((i : Int) + 1)))
    have R2 := Lib.hid (R1.out.grew ((Grew.refl W1 g).set_ 1 (.int .i64 ((i : Int) + 1))) (fun h0 b o m c e => Nat.ne_of_lt (H4.out h0 b o m c e)))
    clear hye hcc hxs'
    go_wp2
    refine wp_region_still_lit (by kernel_rfl) (by kernel_rfl) ?_
    change wpStill _ _ (World.drew (World.drew W1)) (fun a' => Exit.then _ _ Exit.normal a' (World.drew (World.drew W1))) _ _
    repeat still_step
    refine wpStill_nil ?_
    go_wp2
    refine wp_region_still_lit (by kernel_rfl) (by kernel_rfl) ?_
    change wpStill _ _ (World.drew (World.drew (World.drew W1))) (fun a' => Exit.then _ _ Exit.normal a' (World.drew (World.drew (World.drew W1)))) _ _
    repeat still_step
    refine wpStill_nil ?_
    rw [byteOf_eq]
    generalize hz : byteOf _ = z
    have HZ : Hid (X = z) := Lib.hid (by
      rw [HX.out]
      unfold byteX
      rw [if_pos (by rw [hxs.out]; exact hi)]
      dsimp only
      rw [← HX0.out, ← HYG.out]
      exact hz)
    have HSS : Hid (S = (i + 1, H)) := Lib.hid (by
      rw [HS.out]
      unfold byteN
      rw [if_pos (by rw [hxs.out]; exact hi), HH.out])
    have hz256 : z < 256 := by rw [← hz]; exact byteOf_lt _
    clear hz
    go_wp2
    go_ret
    rw [HZ.out, HSS.out]
    exact ⟨rfl, ⟨B2.out.drew.drew.drew, R2.out, by dsimp only; omega, H4.out, H5.out⟩, G2.out.drew.drew.drew⟩
  · have hni : ¬ (i : Int) < (n : Int) := by omega
    have HZ : Hid (X = x) := Lib.hid (by
      rw [HX.out]
      unfold byteX
      rw [if_neg (by rw [hxs.out]; exact hi), HX0.out])
    have HSS : Hid (S = (i, H)) := Lib.hid (by
      rw [HS.out]
      unfold byteN
      rw [if_neg (by rw [hxs.out]; exact hi), HH.out])
    go_wp2
    refine wp_region_still_lit (by kernel_rfl) (by kernel_rfl) ?_
    change wpStill _ _ (World.drew (World.drew W1)) (fun a' => Exit.then _ _ Exit.normal a' (World.drew (World.drew W1))) _ _
    repeat still_step
    refine wpStill_nil ?_
    go_wp2
    go_ret
    rw [HZ.out, HSS.out]
    exact ⟨rfl, ⟨B1.out.drew.drew, R1.out, h3, H4.out, H5.out⟩, G1.out.drew.drew⟩
/-- the number of a new cursor, over the first k bytes -/
noncomputable def newK (xs : List Int) (n : Nat) : Nat → Nat
  | 0 => 94701 + n
  | k + 1 => maskOf ((newK xs n k : Int) * 131 + xs.getD k 0 + 7)
noncomputable def newS (xs : List Int) (n : Nat) : Nat × Int := (0, (newK xs n (min n 4000) : Int))
set_option maxRecDepth 100000 in
theorem new_u (v : Value) (n : Nat) (xs : List Int) (w : World) (hv : Rd w 1 v n (xs.map (Value.int .u8))) (hx : ∀ x ∈ xs, 0 ≤ x ∧ x ≤ 255) (hn : n ≤ 1048576) :
    Calls Try.prog 59 #[v] w fun e w' => e = .returned (.pointer (some ⟨w.heap.size, 0, none⟩)) ∧ CurS v n xs w' w.heap.size (newS xs n) ∧ Below w.heap.size w w' := by
  obtain ⟨A, cap, rfl, hm⟩ := hv.shape
  have HV := Lib.hid hv
  have HX := Lib.hid hx
  have hxs : xs.length = n := by have := hv.len; simpa using this
  have HL := Lib.hid hxs
  clear hv hx hxs hm
  go_enter Try.func59, Try.ntmps59
  go_wp2
  go_loop [3, 4] (fun h i => ∃ (k H : Nat), k ≤ n ∧ k ≤ 4000 ∧ i = .int .i64 (k : Int) ∧ h = .int .i64 (H : Int) ∧ H ≤ 2147483648 ∧ Hid (H = newK xs n k)) (fun _ i => n - (intOf i).toNat)
  case atStart => exact ⟨0, 94701 + n, Nat.zero_le _, by omega, rfl, by simp, by omega, Lib.hid rfl⟩
  case round =>
    obtain ⟨k, H, hk, hk4, rfl, rfl, hH, HK⟩ := hrel
    by_cases hlt : k < n
    · by_cases h4 : k < 4000
      · obtain ⟨b, off, cap', he, hbl, hmm, hcc⟩ := HV.out.full (by omega)
        simp only [Value.slice.injEq] at he
        obtain ⟨rfl, _, rfl⟩ := he
        have hkx : k < xs.length := by have := HL.out; omega
        have e4 : w.cell? ⟨b, off + k, none⟩ = some (.int .u8 (xs[k]'hkx)) := hcc k _ (by simp [hkx])
        have hy := HX.out (xs[k]'hkx) (List.getElem_mem _)
        obtain ⟨y, hye⟩ : ∃ y, y = xs[k]'hkx := ⟨_, rfl⟩
        rw [← hye] at e4 hy
        have HYG : Hid (y = xs.getD k 0) := Lib.hid (by rw [hye, List.getD_eq_getElem?_getD, List.getElem?_eq_getElem hkx]; rfl)
        obtain ⟨hy0, hy1⟩ := hy
        have HK2 : Hid (maskOf ((H : Int) * 131 + y + 7) = newK xs n (k + 1)) := Lib.hid (by
          show _ = maskOf ((newK xs n k : Int) * 131 + xs.getD k 0 + 7)
          rw [← HK.out, ← HYG.out])
        clear hye hcc hkx
        go_wp2
        go_round
        case rel => exact ⟨k + 1, maskOf ((H : Int) * 131 + y + 7), by omega, by omega, by go_num, by rw [maskOf_eq], by have := maskOf_lt ((H : Int) * 131 + y + 7); omega, HK2⟩
        case measure => simp [intOf]; omega
      · have HN : Hid (newS xs n = (0, (H : Int))) := Lib.hid (by unfold newS; rw [show min n 4000 = k by omega, HK.out])
        go_wp2
        go_ret
        rw [HN.out]
        exact ⟨rfl, ⟨Blk.new w 102 #[.slice A n cap, .int .i64 0, .int .i64 (H : Int)], HV.out.below ((Below.refl _ _).alloc (Nat.le_refl _) _), Nat.zero_le _, HV.out.ne, HX.out⟩, (Below.refl _ _).alloc (Nat.le_refl _) _⟩
    · have HN : Hid (newS xs n = (0, (H : Int))) := Lib.hid (by unfold newS; rw [show min n 4000 = k by omega, HK.out])
      go_wp2
      go_ret
      rw [HN.out]
      exact ⟨rfl, ⟨Blk.new w 102 #[.slice A n cap, .int .i64 0, .int .i64 (H : Int)], HV.out.below ((Below.refl _ _).alloc (Nat.le_refl _) _), Nat.zero_le _, HV.out.ne, HX.out⟩, (Below.refl _ _).alloc (Nat.le_refl _) _⟩
noncomputable def belowX (xs : List Int) (N : Nat) (st : Nat × Int) : Nat :=
  if N ≤ 256 then byteX xs st % N else (byteX xs st * 16777216 + byteX xs (byteN xs st) * 65536 + byteX xs (byteN xs (byteN xs st)) * 256 + byteX xs (byteN xs (byteN xs (byteN xs st)))) % N
def belowN (xs : List Int) (N : Nat) (st : Nat × Int) : Nat × Int := if N ≤ 256 then byteN xs st else byteN xs (byteN xs (byteN xs (byteN xs st)))
theorem belowX_lt (xs : List Int) {N : Nat} (st : Nat × Int) (h : 1 ≤ N) : belowX xs N st < N := by
  unfold belowX
  split <;> exact Nat.mod_lt _ (by omega)
set_option maxRecDepth 100000 in
theorem below_u (v : Value) (n : Nat) (xs : List Int) (st : Nat × Int) (g N : Nat) (w : World) (hc : CurS v n xs w g st) (h1 : 1 ≤ N) (hN : N ≤ 1099511627776) : Calls Try.prog 61 #[.pointer (some ⟨g, 0, none⟩), .int .i64 (N : Int)] w (GivesXn v n xs (belowX xs N st) (belowN xs N st) g w) := by
  have HC := Lib.hid hc
  clear hc
  have hp : (0 : Int) < N := by omega
  by_cases h : N ≤ 256
  · have HX : Hid (belowX xs N st = byteX xs st % N) := Lib.hid (by unfold belowX; rw [if_pos h])
    have HS : Hid (belowN xs N st = byteN xs st) := Lib.hid (by unfold belowN; rw [if_pos h])
    rw [HX.out, HS.out]
    obtain ⟨x, hx⟩ : ∃ x, x = byteX xs st := ⟨_, rfl⟩
    have hx256 : x < 256 := by rw [hx]; exact byteX_lt _ _
    rw [← hx]
    have HXX := Lib.hid hx
    clear hx
    go_enter Try.func61, Try.ntmps61
    go_wp2_with fail
    refine (byte_u v n xs st g _ HC.out).mono ?_
    rw [← HXX.out]
    rintro e w1 ⟨rfl, hc1, hg1⟩
    have C1 := Lib.hid hc1
    have G1 := Lib.hid hg1
    clear hc1 hg1
    go_wp2
    go_ret
    exact ⟨ret_int (by simp), C1.out, G1.out⟩
  · have HX : Hid (belowX xs N st = (byteX xs st * 16777216 + byteX xs (byteN xs st) * 65536 + byteX xs (byteN xs (byteN xs st)) * 256 + byteX xs (byteN xs (byteN xs (byteN xs st)))) % N) := Lib.hid (by unfold belowX; rw [if_neg h])
    have HS : Hid (belowN xs N st = byteN xs (byteN xs (byteN xs (byteN xs st)))) := Lib.hid (by unfold belowN; rw [if_neg h])
    rw [HX.out, HS.out]
    obtain ⟨x, hx⟩ : ∃ x, x = byteX xs st := ⟨_, rfl⟩
    obtain ⟨s1, hs1⟩ : ∃ s, s = byteN xs st := ⟨_, rfl⟩
    rw [← hx, ← hs1]
    obtain ⟨y, hy⟩ : ∃ x, x = byteX xs s1 := ⟨_, rfl⟩
    obtain ⟨s2, hs2⟩ : ∃ s, s = byteN xs s1 := ⟨_, rfl⟩
    rw [← hy, ← hs2]
    obtain ⟨z, hz⟩ : ∃ x, x = byteX xs s2 := ⟨_, rfl⟩
    obtain ⟨s3, hs3⟩ : ∃ s, s = byteN xs s2 := ⟨_, rfl⟩
    rw [← hz, ← hs3]
    obtain ⟨u, hu⟩ : ∃ x, x = byteX xs s3 := ⟨_, rfl⟩
    obtain ⟨s4, hs4⟩ : ∃ s, s = byteN xs s3 := ⟨_, rfl⟩
    rw [← hu, ← hs4]
    have hx256 : x < 256 := by rw [hx]; exact byteX_lt _ _
    have hy256 : y < 256 := by rw [hy]; exact byteX_lt _ _
    have hz256 : z < 256 := by rw [hz]; exact byteX_lt _ _
    have hu256 : u < 256 := by rw [hu]; exact byteX_lt _ _
    have c1 := Lib.hid hx
    have c2 := Lib.hid hy
    have c3 := Lib.hid hz
    have c4 := Lib.hid hu
    have t1 := Lib.hid hs1
    have t2 := Lib.hid hs2
    have t3 := Lib.hid hs3
    have t4 := Lib.hid hs4
    clear hx hy hz hu hs1 hs2 hs3 hs4
    go_enter Try.func61, Try.ntmps61
    go_wp2_with fail
    refine (byte_u v n xs st g _ HC.out).mono ?_
    rw [← c1.out, ← t1.out]
    rintro e w1 ⟨rfl, hc1, hg1⟩
    have C1 := Lib.hid hc1
    have G1 := Lib.hid hg1
    clear hc1 hg1
    go_wp2_with fail
    refine (byte_u v n xs s1 g _ C1.out).mono ?_
    rw [← c2.out, ← t2.out]
    rintro e w2 ⟨rfl, hc2, hg2⟩
    have C2 := Lib.hid hc2
    have G2 := Lib.hid (G1.out.trans hg2)
    clear hc2 hg2
    go_wp2_with fail
    refine (byte_u v n xs s2 g _ C2.out).mono ?_
    rw [← c3.out, ← t3.out]
    rintro e w3 ⟨rfl, hc3, hg3⟩
    have C3 := Lib.hid hc3
    have G3 := Lib.hid (G2.out.trans hg3)
    clear hc3 hg3
    go_wp2_with fail
    refine (byte_u v n xs s3 g _ C3.out).mono ?_
    rw [← c4.out, ← t4.out]
    rintro e w4 ⟨rfl, hc4, hg4⟩
    have C4 := Lib.hid hc4
    have G4 := Lib.hid (G3.out.trans hg4)
    clear hc4 hg4
    go_wp2
    go_ret
    exact ⟨ret_int (by simp), C4.out, G4.out⟩
end Go.Proofs.Ytkgbkgonlopciaa

namespace Go.Proofs.Ytkgbkgonlopciaa
open Go.RowKit
set_option linter.unusedVariables false
set_option linter.unusedSimpArgs false
theorem u8_info' : (Try.prog.info? 5).map (fun i => (i.zero, i.size, i.bytes)) = some (some (.int .u8 0), 1, 1) := by kernel_rfl
def longL (M x : Nat) : List UInt8 := List.replicate M (UInt8.ofNat x)
theorem long_set {M j x : Nat} (h : j < M) (hx : x < 256) : ((List.replicate j (UInt8.ofNat x) ++ List.replicate (M - j) 0).map vb).set j (.int .u8 (x : Int)) = (List.replicate (j + 1) (UInt8.ofNat x) ++ List.replicate (M - (j + 1)) 0).map vb := by
  rw [show M - j = (M - (j + 1)) + 1 by omega, List.replicate_succ (n := M - (j + 1)), List.map_append, List.map_cons, List.set_append_right _ _ (by simp), List.length_map, List.length_replicate, Nat.sub_self, List.set_cons_zero, List.replicate_succ' (n := j), List.append_assoc, List.map_append]
  congr 1
  rw [List.singleton_append, List.map_cons]
  congr 1
  unfold vb
  congr 1
  have : (UInt8.ofNat x).toNat = x := by simp; omega
  rw [this]
set_option maxRecDepth 100000 in
theorem long_s (M x : Nat) (w : World) (hM : M ≤ 1000000) (hx : x < 256) : Calls Try.prog 93 #[.int .i64 (M : Int), .int .u8 (x : Int)] w fun e w' => e = .returned (.string (str (longL M x))) ∧ Below w.heap.size w w' := by
  obtain ⟨i0, hi, hz0, hz1, hz2⟩ := info_parts u8_info'
  have hm : M ≤ maxLen := by unfold maxLen; omega
  have hmk := make_eq (P := Try.prog) 40 5 i0 (.int .u8 0) Try.underlying40 hi hz0 M (by rw [hz2]; omega) hm
  rw [hz1] at hmk
  have own0 : Obs (w.alloc (.cells (madeCells (Value.int IntKind.u8 0).cells (M * 1)) 5)) w.heap.size 1 (.slice (some ⟨w.heap.size, 0, none⟩) M M) M ((List.replicate M (0 : UInt8)).map vb) := by
    rw [← zeros_eq]
    exact Obs.of_own (World.ownsRow_lit (base := w.heap.size) (e := 5) (size := 1) w _ M (Nat.le_refl _) hm (by rw [← Array.length_toList, zeros_eq]; simp))
  have HO := Lib.hid own0
  obtain ⟨C, hC⟩ : ∃ C, C = madeCells (Value.int IntKind.u8 0).cells (M * 1) := ⟨_, rfl⟩
  rw [← hC] at hmk HO
  clear own0 hC
  have HN := Lib.hid ((Below.refl w.heap.size w).alloc (Nat.le_refl _) (.cells C 5))
  go_enter Try.func93, Try.ntmps93
  go_wp2
  go_loopw [6] (fun i wr => ∃ j : Nat, j ≤ M ∧ i = .int .i64 (j : Int) ∧ Hid (Obs wr w.heap.size 1 (.slice (some ⟨w.heap.size, 0, none⟩) M M) M ((List.replicate j (UInt8.ofNat x) ++ List.replicate (M - j) 0).map vb)) ∧ Hid (Below w.heap.size w wr)) (fun i _ => M - (intOf i).toNat)
  case atStart => exact ⟨0, Nat.zero_le _, rfl, by simpa using HO, HN⟩
  case round =>
    clear HO HN hmk
    obtain ⟨j, hj, rfl, HO, HN⟩ := hrel
    by_cases hlt : j < M
    · obtain ⟨u, hu⟩ : ∃ u, ((List.replicate j (UInt8.ofNat x) ++ List.replicate (M - j) 0).map vb)[j]? = some u := ⟨_, List.getElem?_eq_getElem (by simp; omega)⟩
      obtain ⟨hcell, hfr⟩ := HO.out.cellAt hu
      have HO2 := Lib.hid (HO.out.set_ j (by omega) (.int .u8 (x : Int)))
      rw [long_set hlt hx] at HO2
      have HN2 := Lib.hid (HN.out.setCell (p := ⟨w.heap.size, j, none⟩) (Nat.le_refl _) (.int .u8 (x : Int)))
      clear hu HO HN
      go_wp2
      go_roundw
      case rel => exact ⟨j + 1, by omega, by go_num, HO2, HN2⟩
      case measure => (simp [intOf]; try omega)
    · obtain rfl : j = M := by omega
      have HL : Hid (List.replicate j (UInt8.ofNat x) ++ List.replicate (j - j) 0 = longL j x) := Lib.hid (by rw [Nat.sub_self]; simp [longL])
      rw [HL.out] at HO
      have hst : Sem.run Try.prog (convert 40 9 (.slice (some ⟨w.heap.size, 0, none⟩) j j)) wr = .ok (.string (str (longL j x))) wr := obs_string (P := Try.prog) wr 40 9 5 Try.underlying40 Try.underlying5 Try.underlying9 HO.out
      go_wp2
      go_ret
      exact ⟨rfl, HN.out⟩
set_option maxRecDepth 100000 in
theorem pickInt_u (v : Value) (n : Nat) (xs : List Int) (st : Nat × Int) (g : Nat) (v2 : Value) (m : Nat) (ys : List Int) (w : World) (hc : CurS v n xs w g st) (hv : Rd w 1 v2 m (ys.map vn)) (h0 : 0 < m) (hm : m ≤ 256)
    (hne : ∀ b off k cap, v2 = .slice (some ⟨b, off, none⟩) k cap → b ≠ g) : Calls Try.prog 92 #[.pointer (some ⟨g, 0, none⟩), v2] w fun e w' => e = .returned (.int .i64 (ys.getD (belowX xs m st) 0)) ∧ CurS v n xs w' g (belowN xs m st) ∧ Grew w w' g := by
  obtain ⟨A, cap, rfl, hmm⟩ := hv.shape
  have hl : ys.length = m := by have := hv.len; simpa using this
  have HL := Lib.hid hl
  have HC := Lib.hid hc
  have HV := Lib.hid hv
  have HNE := Lib.hid hne
  obtain ⟨x, hx⟩ : ∃ x, x = belowX xs m st := ⟨_, rfl⟩
  have hxm : x < m := by rw [hx]; exact belowX_lt xs st h0
  rw [← hx]
  have HX := Lib.hid hx
  clear hc hv hl hne hmm hx
  go_enter Try.func92, Try.ntmps92
  go_wp2_with fail
  refine (below_u v n xs st g m _ HC.out h0 (by omega)).mono ?_
  rw [← HX.out]
  rintro e w1 ⟨rfl, hc1, hg1⟩
  have hxl : x < ys.length := by have := HL.out; omega
  obtain ⟨b, off, cap', he, hbl, hmm, hcc⟩ := (HV.out.grew hg1 (fun _ => HNE.out)).full h0
  simp only [Value.slice.injEq] at he
  obtain ⟨rfl, _, rfl⟩ := he
  have c1 : w1.cell? ⟨b, off + x, none⟩ = some (.int .i64 (ys[x]'hxl)) := hcc x _ (getElem?_map_vn _ _ _)
  obtain ⟨y, hy⟩ : ∃ y, y = ys[x]'hxl := ⟨_, rfl⟩
  have HY : Hid (ys.getD x 0 = y) := Lib.hid (by rw [hy, List.getD_eq_getElem?_getD, List.getElem?_eq_getElem hxl]; rfl)
  rw [← hy] at c1
  have C1 := Lib.hid hc1
  have G1 := Lib.hid hg1
  clear hcc hc1 hg1 hy
  go_wp2
  go_ret
  exact ⟨ret_int HY.out.symm, C1.out, G1.out⟩
end Go.Proofs.Ytkgbkgonlopciaa

namespace Go.Proofs.Ytkgbkgonlopciaa
open Go.RowKit
set_option linter.unusedVariables false
set_option linter.unusedSimpArgs false
abbrev St := Nat × Int
/-- one field is drawn -/
noncomputable def fldStep (xs : List Int) (f : Nat × Nat) (o : OD) (st : St) : OD × St :=
  if f.1 = 10 then (o.put f.1 (belowX xs 2 (belowN xs 200 st) : Nat) (belowX xs 2 (belowN xs 200 st) != 0) (str (longL f.2 (byteX xs (belowN xs 2 (belowN xs 200 st))))), byteN xs (belowN xs 2 (belowN xs 200 st)))
  else (o.put f.1 (belowX xs 200 st : Nat) (belowX xs 200 st != 0) (str (longL f.2 (byteX xs (belowN xs 200 st)))), byteN xs (belowN xs 200 st))
noncomputable def fldAll (xs : List Int) : List (Nat × Nat) → OD × St → OD × St
  | [], q => q
  | f :: L, q => fldAll xs L (fldStep xs f q.1 q.2)
/-- the numbers are drawn: place i, number id -/
noncomputable def idsK (xs : List Int) : Nat → Nat → Nat → St → List Int × St
  | 0, _, _, st => ([], st)
  | f + 1, i, id, st => if i < 1 + belowX xs 3 st then ((id : Int) :: (idsK xs f (i + 1) (id + 1 + belowX xs 5 (belowN xs 3 st)) (belowN xs 5 (belowN xs 3 st))).1, (idsK xs f (i + 1) (id + 1 + belowX xs 5 (belowN xs 3 st)) (belowN xs 5 (belowN xs 3 st))).2) else ([], belowN xs 3 st)
noncomputable def optK (xs : List Int) (k : Nat) (st : St) : OD × St :=
  if k = 8 then ({ (fldAll xs (lay k) (OD.new k [], st)).1 with ids := (idsK xs 4 0 (belowX xs 5 (fldAll xs (lay k) (OD.new k [], st)).2) (belowN xs 5 (fldAll xs (lay k) (OD.new k [], st)).2)).1 }, (idsK xs 4 0 (belowX xs 5 (fldAll xs (lay k) (OD.new k [], st)).2) (belowN xs 5 (fldAll xs (lay k) (OD.new k [], st)).2)).2)
  else fldAll xs (lay k) (OD.new k [], st)
noncomputable def optX (xs : List Int) (st : St) : OD × St := optK xs (1 + belowX xs 10 st) (belowN xs 10 st)
/-- an option has been drawn -/
def GivesO (v : Value) (n : Nat) (xs : List Int) (q : OD × St) (g : Nat) (w : World) (e : Ending) (w' : World) : Prop :=
  ∃ iv, e = .returned (vo q.1 iv) ∧ Obs w' w.heap.size 1 iv q.1.ids.length (q.1.ids.map vn) ∧ CurS v n xs w' g q.2 ∧ Grew w w' g ∧ q.1.wf ∧ q.1.ids.length ≤ 8
theorem Grew.size' {w w' : World} {g : Nat} (h : Grew w w' g) : w.heap.size ≤ w'.heap.size := h.size
theorem Blk.grewS {w w' : World} {g g' : Nat} {t : TypeId} {cs : List Value} (h : Blk w g t cs) (hg : Grew w w' g') (hne : g' < g) : Blk w' g t cs := h.grew hg (by omega)
set_option maxRecDepth 100000 in
set_option maxHeartbeats 6400000 in
theorem opt_u (v : Value) (n : Nat) (xs : List Int) (st : St) (g : Nat) (w : World) (hc : CurS v n xs w g st) : Calls Try.prog 94 #[.pointer (some ⟨g, 0, none⟩)] w (GivesO v n xs (optX xs st) g w) := by
  have hgl := hc.lt
  obtain ⟨R, hR⟩ : ∃ R, R = optX xs st := ⟨_, rfl⟩
  rw [← hR]
  have HR := Lib.hid hR
  obtain ⟨K0, hK0⟩ : ∃ K, K = belowX xs 10 st := ⟨_, rfl⟩
  have hK10 : K0 < 10 := by rw [hK0]; exact belowX_lt xs st (by omega)
  obtain ⟨s1, hs1⟩ : ∃ s, s = belowN xs 10 st := ⟨_, rfl⟩
  have HK0 := Lib.hid hK0
  have HS1 := Lib.hid hs1
  have HC := Lib.hid hc
  clear hR hK0 hs1 hc
  obtain ⟨i0, hi, hz0, hz1, hz2⟩ := info_parts i64_info
  go_enter Try.func94, Try.ntmps94
  go_upto_region 1 with (fail)
  obtain ⟨W, hW⟩ : ∃ W, W = w.alloc (.cells (voC (OD.new 0 []) (.slice none 0 0)).toArray 27) := ⟨_, rfl⟩
  change Code.wp _ _ _ _ (w.alloc (.cells (voC (OD.new 0 []) (.slice none 0 0)).toArray 27))
  rw [← hW]
  have E0 := (Below.refl w.heap.size w).alloc (Nat.le_refl _) (.cells (voC (OD.new 0 []) (.slice none 0 0)).toArray 27)
  have X0 := Lib.hid (Blk.new w 27 (voC (OD.new 0 []) (.slice none 0 0)).toArray)
  rw [← hW] at E0 X0
  have C0 := Lib.hid (HC.out.below E0)
  have G0 : Hid (Grew w W g) := Lib.hid (Grew.of_below E0)
  clear hW HC E0
  go_wp2_with fail
  refine (below_u v n xs st g 10 _ C0.out (by omega) (by omega)).mono ?_
  rw [← HK0.out, ← HS1.out]
  rintro e w1 ⟨rfl, hc1, hg1⟩
  have C1 := Lib.hid hc1
  have G1 := Lib.hid (G0.out.trans hg1)
  have X1 := Lib.hid (X0.out.grewS hg1 hgl)
  clear hc1 hg1 C0 G0 X0
  obtain ⟨K, hK⟩ : ∃ K, K = 1 + K0 := ⟨_, rfl⟩
  have eK : (1 : Int) + (K0 : Int) = (K : Int) := by rw [hK]; omega
  have HKK : Hid (1 ≤ (K : Int) ∧ (K : Int) ≤ 10) := Lib.hid (by omega)
  have HRK : Hid (R = optK xs K s1) := Lib.hid (by rw [HR.out, hK, HK0.out, HS1.out]; rfl)
  have hKb : K ≤ 10 := by omega
  clear hK
  go_upto_region 2 with (fail)
  obtain ⟨W3, hW3⟩ : ∃ W3, W3 = w1.alloc (.cells (voC (OD.new (K : Int) []) (.slice none 0 0)).toArray 27) := ⟨_, rfl⟩
  change Code.wp _ _ _ _ (w1.alloc (.cells (voC (OD.new (K : Int) []) (.slice none 0 0)).toArray 27))
  rw [← hW3]
  have E3 := (Below.refl w1.heap.size w1).alloc (Nat.le_refl _) (.cells (voC (OD.new (K : Int) []) (.slice none 0 0)).toArray 27)
  have X3 := Lib.hid (Blk.new w1 27 (voC (OD.new (K : Int) []) (.slice none 0 0)).toArray)
  rw [← hW3] at E3 X3
  have Y3 := Lib.hid (X1.out.below E3 X1.out.lt)
  have C3 := Lib.hid (C1.out.below E3)
  have G3 := Lib.hid (G1.out.trans (Grew.of_below E3))
  have hne : w.heap.size < w1.heap.size := X1.out.lt
  obtain ⟨b3, hb3⟩ : ∃ b, b = w1.heap.size := ⟨_, rfl⟩
  rw [← hb3] at X3 hne ⊢
  have S3 : Hid (b3 + 1 ≤ W3.heap.size) := Lib.hid X3.out.lt
  have HNE : Hid (g < w.heap.size ∧ w.heap.size < b3) := Lib.hid ⟨hgl, hne⟩
  clear hW3 hb3 E3 X1 C1 G1
  have k0 : W3.cell? ⟨b3, 0, none⟩ = some (.int .i64 (K : Int)) := X3.out.cell 0
  go_wp2_with fail
  refine (shape_s (K : Int) _ HKK.out).mono ?_
  rintro e w4 ⟨rfl, hb4⟩
  have X4 := Lib.hid (X3.out.below hb4 X3.out.lt)
  have Y4 := Lib.hid (Y3.out.below hb4 Y3.out.lt)
  have C4 := Lib.hid (C3.out.below hb4)
  have G4 := Lib.hid (G3.out.trans (Grew.of_below hb4))
  have S4 := Lib.hid (Nat.le_trans S3.out hb4.size)
  obtain ⟨m, hm⟩ : ∃ m, m = (lay (K : Int)).length := ⟨_, rfl⟩
  have hm4 : m ≤ 4 := by
    rw [hm]; unfold lay
    repeat' split
    all_goals simp
  obtain ⟨S, hS⟩ : ∃ S, S = shp (K : Int) := ⟨_, rfl⟩
  have hss : S.size = m * 2 := by rw [hS, hm]; exact shp_size (K : Int)
  rw [← hS]
  have HSP := Lib.hid hS
  have HMM2 := Lib.hid hm
  have HSS := Lib.hid hss
  clear hb4 k0 X3 Y3 C3 G3 S3 hm hS hss
  go_wp2
  go_loopw [5] (fun i wr => ∃ (j : Nat) (o : OD) (s2 : St), j ≤ m ∧ i = .int .i64 ((j * 2 : Nat) : Int) ∧ Hid (fldAll xs (lay (K : Int)) (OD.new (K : Int) [], s1) = fldAll xs ((lay (K : Int)).drop j) (o, s2)) ∧ Hid o.wf ∧ Hid (o.ids = []) ∧ Hid (o.k = (K : Int)) ∧ Hid (Blk wr b3 27 (voC o (.slice none 0 0))) ∧ Hid (Blk wr w.heap.size 27 (voC (OD.new 0 []) (.slice none 0 0))) ∧ Hid (CurS v n xs wr g s2) ∧ Hid (Grew w wr g) ∧ Hid (b3 + 1 ≤ wr.heap.size)) (fun i _ => m * 2 - (intOf i).toNat)
  case atStart => exact ⟨0, _, s1, Nat.zero_le _, rfl, Lib.hid rfl, Lib.hid (wf_new (i64R_nat (by omega)) (by simp)), Lib.hid rfl, Lib.hid rfl, X4, Y4, C4, G4, S4⟩
  case round =>
    clear X4 Y4 C4 G4 S4
    obtain ⟨j, o, s2, hj, rfl, HF, HV, HI, HOK, X4, Y4, C4, G4, S4⟩ := hrel
    by_cases hlt : j < m
    case neg =>
      obtain rfl : j = m := by omega
      have HF' : Hid (fldAll xs (lay (K : Int)) (OD.new (K : Int) [], s1) = (o, s2)) := Lib.hid (by rw [HF.out, HMM2.out, List.drop_length]; rfl)
      have q1 : ¬ (((j * 2 : Nat) : Int) + 1 < (S.size : Int)) := by have := HSS.out; omega
      have k0 : wr.cell? ⟨b3, 0, none⟩ = some (.int .i64 (K : Int)) := by rw [← HOK.out]; exact X4.out.cell 0
      by_cases h8 : K = 8
      case neg =>
        have q4 : ((K : Int) == 8) = false := by simp; omega
        have HRO : Hid (R = (o, s2)) := Lib.hid (by rw [HRK.out]; unfold optK; rw [if_neg h8, HF'.out])
        clear h8
        go_wp2_with (first | (refine wpl_opt (o := o) rfl (by rfl) (by rfl) (Bx.of_blk X4.out) ?_) | (refine wpl_store_optM (o := o) rfl (by rfl) (by rfl) (by rfl) Y4.out rfl ?_))
        refine bodyPost_ret (results_opt rfl (by rfl) (Bx.setCells (vs := voC o (.slice none 0 0)) Y4.out rfl)) rfl ?_
        rw [HRO.out]
        have BT : Below w.heap.size wr (wr.setCells w.heap.size 0 (voC o (.slice none 0 0))) := Below.setCells' (Below.refl _ _) (Nat.le_refl _) _ _
        exact ⟨.slice none 0 0, rfl, by rw [show (o, s2).1.ids = [] from HI.out]; exact Obs.nil _ _ _, C4.out.belowB BT hgl, G4.out.below_trans BT, HV.out, by rw [show (o, s2).1.ids = [] from HI.out]; exact Nat.zero_le _⟩
      have q4 : ((K : Int) == 8) = true := by simp; omega
      obtain ⟨id0, hid0⟩ : ∃ x, x = belowX xs 5 s2 := ⟨_, rfl⟩
      obtain ⟨st0, hst0⟩ : ∃ s, s = belowN xs 5 s2 := ⟨_, rfl⟩
      have hid5 : id0 < 5 := by rw [hid0]; exact belowX_lt xs s2 (by omega)
      have HRO : Hid (R = ({ o with ids := (idsK xs 4 0 id0 st0).1 }, (idsK xs 4 0 id0 st0).2)) := Lib.hid (by rw [HRK.out]; unfold optK; rw [if_pos h8, HF'.out, hid0, hst0])
      have HID := Lib.hid hid0
      have HST0 := Lib.hid hst0
      clear h8 hid0 hst0
      go_wp2_with fail
      refine (below_u v n xs s2 g 5 _ C4.out (by omega) (by omega)).mono ?_
      rw [← HID.out, ← HST0.out]
      rintro e w5 ⟨rfl, hc, hg⟩
      have C5 := Lib.hid hc
      have G5 := Lib.hid (G4.out.trans hg)
      have X5 := Lib.hid (X4.out.grewS hg (by omega))
      have Y5 := Lib.hid (Y4.out.grewS hg hgl)
      have S5 := Lib.hid (Nat.le_trans S4.out hg.size)
      clear hc hg C4 G4 X4 Y4 S4 k0
      go_wp2
      obtain ⟨wo, rfl⟩ : ∃ wo : World, wo = wr := ⟨_, rfl⟩
      go_loopw [8, 9] (fun d i wr => ∃ (k id cv : Nat) (Av : Option Addr) (l : List Int) (st2 : St), k ≤ 3 ∧ id ≤ 5 + 6 * k ∧ i = .int .i64 (k : Int) ∧ d = .int .i64 (id : Int) ∧ Hid (l.length = k ∧ ∀ x ∈ l, i64R x) ∧ Hid (idsK xs 4 0 id0 st0 = (l ++ (idsK xs (4 - k) k id st2).1, (idsK xs (4 - k) k id st2).2)) ∧ Hid (Obs wr (b3 + 1) 1 (.slice Av k cv) k (l.map vn)) ∧ Hid (Blk wr b3 27 (voC o (.slice Av k cv))) ∧ Hid (Blk wr w.heap.size 27 (voC (OD.new 0 []) (.slice none 0 0))) ∧ Hid (CurS v n xs wr g st2) ∧ Hid (Grew w wr g) ∧ Hid (b3 + 1 ≤ wr.heap.size)) (fun _ i _ => 4 - (intOf i).toNat)
      case atStart => exact ⟨0, id0, 0, none, [], st0, by omega, by omega, rfl, rfl, Lib.hid ⟨rfl, fun x h => by cases h⟩, Lib.hid (by simp), Lib.hid (Obs.nil _ _ _), X5, Y5, C5, G5, S5⟩
      case round =>
        clear X5 Y5 C5 G5 S5
        obtain ⟨k, id, cv, Av, l, st2, hk, hidb, rfl, rfl, HLL, HIK, OV, X5, Y5, C5, G5, S5⟩ := hrel
        obtain ⟨bd, hbd⟩ : ∃ x, x = belowX xs 3 st2 := ⟨_, rfl⟩
        obtain ⟨sb, hsb⟩ : ∃ s, s = belowN xs 3 st2 := ⟨_, rfl⟩
        have hbd3 : bd < 3 := by rw [hbd]; exact belowX_lt xs st2 (by omega)
        have HBD := Lib.hid hbd
        have HSB := Lib.hid hsb
        have e4k : 4 - k = (3 - k) + 1 := by omega
        have HIK2 : Hid (idsK xs (4 - k) k id st2 = if k < 1 + bd then ((id : Int) :: (idsK xs (3 - k) (k + 1) (id + 1 + belowX xs 5 sb) (belowN xs 5 sb)).1, (idsK xs (3 - k) (k + 1) (id + 1 + belowX xs 5 sb) (belowN xs 5 sb)).2) else ([], sb)) := Lib.hid (by
          rw [e4k, hbd, hsb]; rfl)
        clear hbd hsb e4k
        go_wp2_with fail
        refine (below_u v n xs st2 g 3 _ C5.out (by omega) (by omega)).mono ?_
        rw [← HBD.out, ← HSB.out]
        rintro e w6 ⟨rfl, hc, hg⟩
        have C6 := Lib.hid hc
        have G6 := Lib.hid (G5.out.trans hg)
        have X6 := Lib.hid (X5.out.grewS hg (by omega))
        have Y6 := Lib.hid (Y5.out.grewS hg hgl)
        have S6 := Lib.hid (Nat.le_trans S5.out hg.size)
        have O6 := Lib.hid (OV.out.grew hg (fun q hq => by have := (OV.out.lt q hq).1; omega))
        clear hc hg C5 G5 X5 Y5 S5 OV
        by_cases hlt2 : k < 1 + bd
        case neg =>
          have q5 : ¬ ((k : Int) < 1 + (bd : Int)) := by omega
          have HEND : Hid (R = ({ o with ids := l }, sb)) := Lib.hid (by rw [HRO.out, HIK.out, HIK2.out, if_neg hlt2, List.append_nil])
          clear hlt2
          go_wp2_with (first | (refine wpl_opt (o := o) rfl (by rfl) (by rfl) (Bx.of_blk X6.out) ?_) | (refine wpl_store_optM (o := o) rfl (by rfl) (by rfl) (by rfl) Y6.out rfl ?_))
          refine bodyPost_ret (results_opt rfl (by rfl) (Bx.setCells (vs := voC o (.slice Av k cv)) Y6.out rfl)) rfl ?_
          rw [HEND.out]
          have BT : Below w.heap.size w6 (w6.setCells w.heap.size 0 (voC o (.slice Av k cv))) := Below.setCells' (Below.refl _ _) (Nat.le_refl _) _ _
          refine ⟨.slice Av k cv, rfl, ?_, C6.out.belowB BT hgl, G6.out.below_trans BT, ⟨HV.out.1, HV.out.2.1, HLL.out.2⟩, by show l.length ≤ 8; have := HLL.out.1; omega⟩
          show Obs _ _ 1 _ l.length _
          rw [HLL.out.1]
          exact (O6.out.farS (by omega) _ _).mono (by omega)
        have q5 : (k : Int) < 1 + (bd : Int) := by omega
        have x13 : w6.cell? ⟨b3, 13, none⟩ = some (.slice Av k cv) := X6.out.cell 13
        go_upto_region 17 with (at_builtin; refine wpList_append_obs2 _ rfl _ _ 22 rfl (b3 + 1) 3 i0 (.int .i64 0) 1 8 Try.underlying22 hi hz0 hz1 hz2 rfl (by decide) _ k _ rfl (O6.out.alloc _) (b3 + 1) _ 1 _ rfl (obs_one w6 3 (.int .i64 (id : Int)) (b3 + 1) S6.out) (by intro u hu; obtain rfl := List.mem_singleton.1 hu; rfl) (by unfold maxLen; omega) (by omega) (by have := S6.out; simp; omega) ?_; intro v3 w7 hown3 hb3 hg3; have O7 := Lib.hid hown3; have HB7 := Lib.hid hb3; obtain ⟨A3, c3, rfl⟩ := O7.out.shape; have y13 : w7.cell? ⟨b3, 13, none⟩ = some (.slice Av k cv) := ((X6.out.alloc (.cells #[.int .i64 (id : Int)] 3)).below hb3 (by omega)).cell 13; have f13 := ((X6.out.alloc (.cells #[.int .i64 (id : Int)] 3)).below hb3 (by omega)).frozen 13; clear hown3 hb3 hg3)
        have X7 := Lib.hid ((X6.out.alloc (.cells #[.int .i64 (id : Int)] 3)).below HB7.out (by omega))
        have Y7 := Lib.hid ((Y6.out.alloc (.cells #[.int .i64 (id : Int)] 3)).below HB7.out (by omega))
        have C7 := Lib.hid ((C6.out.below ((Below.refl _ _).alloc (Nat.le_refl _) (.cells #[.int .i64 (id : Int)] 3))).belowB HB7.out (by omega))
        have G7 := Lib.hid ((G6.out.trans (Grew.of_below ((Below.refl _ _).alloc (Nat.le_refl _) (.cells #[.int .i64 (id : Int)] 3)))).below_trans (HB7.out.mono (by omega)))
        have S7 : Hid (b3 + 1 ≤ w7.heap.size) := Lib.hid (Nat.le_trans (by have := S6.out; simp; omega) HB7.out.size)
        have O7' : Hid (Obs w7 (b3 + 1) 1 (.slice A3 (k + 1) c3) (k + 1) ((l ++ [(id : Int)]).map vn)) := Lib.hid (by rw [List.map_append]; exact O7.out)
        clear x13 X6 Y6 C6 G6 S6 O6 O7 HB7
        obtain ⟨W8, hW8⟩ : ∃ W, W = w7.setCell ⟨b3, 13, none⟩ (.slice A3 (k + 1) c3) := ⟨_, rfl⟩
        rw [← hW8]
        have X8 : Hid (Blk W8 b3 27 (voC o (.slice A3 (k + 1) c3))) := Lib.hid (by rw [hW8]; exact X7.out.set_ 13 _)
        have Y8 : Hid (Blk W8 w.heap.size 27 (voC (OD.new 0 []) (.slice none 0 0))) := Lib.hid (by rw [hW8]; exact Y7.out.far (by dsimp only; omega) _)
        have BT : Below b3 w7 W8 := by rw [hW8]; exact (Below.refl _ _).setCell (by dsimp only; omega) _
        have C8 := Lib.hid (C7.out.belowB BT (by omega))
        have G8 := Lib.hid (G7.out.below_trans (BT.mono (by omega)))
        have O8 : Hid (Obs W8 (b3 + 1) 1 (.slice A3 (k + 1) c3) (k + 1) ((l ++ [(id : Int)]).map vn)) := Lib.hid (by rw [hW8]; exact O7'.out.far (by dsimp only; omega) _)
        have S8 : Hid (b3 + 1 ≤ W8.heap.size) := Lib.hid (Nat.le_trans S7.out BT.size)
        clear hW8 y13 f13 X7 Y7 C7 G7 S7 O7' BT
        obtain ⟨cd, hcd⟩ : ∃ x, x = belowX xs 5 sb := ⟨_, rfl⟩
        obtain ⟨sd, hsd⟩ : ∃ s, s = belowN xs 5 sb := ⟨_, rfl⟩
        have hcd5 : cd < 5 := by rw [hcd]; exact belowX_lt xs sb (by omega)
        have HCD := Lib.hid hcd
        have HSD := Lib.hid hsd
        have HIK3 : Hid (idsK xs 4 0 id0 st0 = ((l ++ [(id : Int)]) ++ (idsK xs (4 - (k + 1)) (k + 1) (id + 1 + cd) sd).1, (idsK xs (4 - (k + 1)) (k + 1) (id + 1 + cd) sd).2)) := Lib.hid (by
          rw [HIK.out, HIK2.out, if_pos hlt2, ← hcd, ← hsd, show 4 - (k + 1) = 3 - k by omega, List.append_assoc]; rfl)
        have HLL2 : Hid ((l ++ [(id : Int)]).length = k + 1 ∧ ∀ x ∈ l ++ [(id : Int)], i64R x) := Lib.hid ⟨by rw [List.length_append, HLL.out.1]; rfl, fun x hx => by
          rcases List.mem_append.1 hx with hx | hx
          · exact HLL.out.2 x hx
          · obtain rfl := List.mem_singleton.1 hx
            exact i64R_nat (by omega)⟩
        have hk2 : k + 1 ≤ 3 := by omega
        clear hcd hsd hlt2 q5
        go_wp2_with fail
        refine (below_u v n xs sb g 5 _ C8.out (by omega) (by omega)).mono ?_
        rw [← HCD.out, ← HSD.out]
        rintro e w9 ⟨rfl, hc, hg⟩
        have C9 := Lib.hid hc
        have G9 := Lib.hid (G8.out.trans hg)
        have X9 := Lib.hid (X8.out.grewS hg (by omega))
        have Y9 := Lib.hid (Y8.out.grewS hg hgl)
        have S9 := Lib.hid (Nat.le_trans S8.out hg.size)
        have O9 := Lib.hid (O8.out.grew hg (fun q hq => by have := (O8.out.lt q hq).1; omega))
        clear hc hg C8 G8 X8 Y8 S8 O8
        go_wp2
        go_roundw
        case rel => exact ⟨k + 1, id + 1 + cd, c3, A3, _, sd, hk2, by omega, by go_num, by go_num, HLL2, HIK3, O9, X9, Y9, C9, G9, S9⟩
        case measure => (simp [intOf]; try omega)
    have q1 : (((j * 2 : Nat) : Int) + 1 < (S.size : Int)) := by have := HSS.out; omega
    have hfl : j < (lay (K : Int)).length := by have := HMM2.out; omega
    obtain ⟨i1, i12, m1, m20⟩ := lay_at hfl
    obtain ⟨h1, h2, e1, e2⟩ := shp_at hfl
    have hwd := lay_w hfl
    have hdrop : (lay (K : Int)).drop j = (lay (K : Int))[j]'hfl :: (lay (K : Int)).drop (j + 1) := List.drop_eq_getElem_cons hfl
    obtain ⟨⟨i, m2⟩, hf⟩ : ∃ f, f = (lay (K : Int))[j]'hfl := ⟨_, rfl⟩
    rw [← hf] at i1 i12 m1 m20 e1 e2 hwd hdrop
    dsimp only at i1 i12 m1 m20 e1 e2 hwd
    have HDR := Lib.hid hdrop
    obtain ⟨p, hp⟩ : ∃ p, p = j * 2 := ⟨_, rfl⟩
    have HP := Lib.hid hp
    have hp8 : p ≤ 8 := by omega
    have hpb : p < S.size := by have := HSS.out; omega
    have hpb1 : p + 1 < S.size := by have := HSS.out; omega
    have e3 : S[p]'hpb = ltr i := by
      have h3 := HSP.out
      subst h3; subst hp
      exact e1
    have e4 : S[p + 1]'hpb1 = wsg m2 := by
      have h3 := HSP.out
      subst h3; subst hp
      exact e2
    have hpx : ((p : Int) + 1).toNat < S.size := by omega
    have e4' : S[((p : Int) + 1).toNat]'hpx = wsg m2 := by
      have : ((p : Int) + 1).toNat = p + 1 := by omega
      simp only [this]
      exact e4
    have wp1 : IntKind.i64.wrap ((p : Int) + 1) = (p : Int) + 1 := IntWalk.i64_in _ (by omega)
    have gp0 : (0 : Int) ≤ (p : Int) + 1 := by omega
    rw [← hp] at q1 ⊢
    have HWD := Lib.hid hwd
    clear hf hfl hdrop e1 e2 h1 h2 hwd hp
    go_wp2_with fail
    refine (wide_s m2 _ HWD.out).mono ?_
    rintro e w6 ⟨rfl, rfl⟩
    obtain ⟨N0, hN0⟩ : ∃ N, N = belowX xs 200 s2 := ⟨_, rfl⟩
    have hN0l : N0 < 200 := by rw [hN0]; exact belowX_lt xs s2 (by omega)
    obtain ⟨sa, hsa⟩ : ∃ s, s = belowN xs 200 s2 := ⟨_, rfl⟩
    have HN0 := Lib.hid hN0
    have HSA := Lib.hid hsa
    clear hN0 hsa
    go_wp2_with fail
    refine (below_u v n xs s2 g 200 _ C4.out (by omega) (by omega)).mono ?_
    rw [← HN0.out, ← HSA.out]
    rintro e w6 ⟨rfl, hc, hg⟩
    have C5 := Lib.hid hc
    have G5 := Lib.hid (G4.out.trans hg)
    have X5 := Lib.hid (X4.out.grewS hg (by omega))
    have Y5 := Lib.hid (Y4.out.grewS hg hgl)
    have S5 := Lib.hid (Nat.le_trans S4.out hg.size)
    clear hc hg C4 G4 X4 Y4 S4
    by_cases hi10 : i = 10
    · have q2 : (((ltr i).toNat : Int) == 102) = true := by rw [hi10]; rfl
      obtain ⟨N, hN⟩ : ∃ N, N = belowX xs 2 sa := ⟨_, rfl⟩
      have hNl : N < 2 := by rw [hN]; exact belowX_lt xs sa (by omega)
      obtain ⟨s3, hs3⟩ : ∃ s, s = belowN xs 2 sa := ⟨_, rfl⟩
      obtain ⟨bb, hbq⟩ : ∃ b, b = byteX xs s3 := ⟨_, rfl⟩
      obtain ⟨s4, hs4⟩ : ∃ s, s = byteN xs s3 := ⟨_, rfl⟩
      obtain ⟨TT, hTT⟩ : ∃ T, T = str (longL m2 bb) := ⟨_, rfl⟩
      obtain ⟨u, hu⟩ : ∃ u, u = o.put i (N : Int) (N != 0) TT := ⟨_, rfl⟩
      have HF2 : Hid (fldAll xs (lay (K : Int)) (OD.new (K : Int) [], s1) = fldAll xs ((lay (K : Int)).drop (j + 1)) (u, s4)) := Lib.hid (by
        rw [HF.out, HDR.out]
        show fldAll xs _ (fldStep xs (i, m2) o s2) = _
        unfold fldStep
        rw [if_pos hi10, ← HSA.out, ← hN, ← hs3, ← hbq, ← hs4, ← hTT, ← hu])
      have HN := Lib.hid hN
      have HS3 := Lib.hid hs3
      have HB := Lib.hid hbq
      have HS4 := Lib.hid hs4
      have HTT := Lib.hid hTT
      have HU := Lib.hid hu
      have HV2 : Hid u.wf := Lib.hid (by rw [hu]; exact wf_put HV.out i (i64R_nat (by omega)) (by rw [hTT, str_size]; unfold longL maxLen; rw [List.length_replicate]; omega))
      have HI2 : Hid (u.ids = []) := Lib.hid (by rw [hu, put_ids]; exact HI.out)
      have HK2 : Hid (u.k = (K : Int)) := Lib.hid (by rw [hu, put_k]; exact HOK.out)
      clear hN hs3 hbq hs4 hTT hu hi10
      go_wp2_with fail
      refine (below_u v n xs sa g 2 _ C5.out (by omega) (by omega)).mono ?_
      rw [← HN.out, ← HS3.out]
      rintro e w7 ⟨rfl, hc, hg⟩
      have C4 := Lib.hid hc
      have G4 := Lib.hid (G5.out.trans hg)
      have X4 := Lib.hid (X5.out.grewS hg (by omega))
      have Y4 := Lib.hid (Y5.out.grewS hg hgl)
      have S4 := Lib.hid (Nat.le_trans S5.out hg.size)
      clear hc hg C5 G5 X5 Y5 S5
      have CC := Lib.hid (C4.out.below (Below.refl _ _).drew)
      have GG := Lib.hid G4.out.drew
      have XX := Lib.hid X4.out.drew
      have YY := Lib.hid Y4.out.drew
      have SS := S4
      clear C4 G4 X4 Y4 S4
      have hbb : bb < 256 := by rw [HB.out]; exact byteX_lt _ _
      have wx8 : IntKind.u8.wrap (bb : Int) = (bb : Int) := by rw [IntKind.wrap_u8]; omega
      go_wp2_with fail
      refine wp_region_any (by kernel_rfl) ?_
      try (change wpAny _ _ _ _ _ _ _ (World.drew _))
      refine wpAny_take (i := 1) (oi := ⟨some 38, _, _, _, _, _⟩) (v := ?_) rfl (by kernel_rfl) (by kernel_rfl) (by kernel_rfl) (fun _ _ _ h => h) (Or.inl ⟨by rfl, ?_⟩) ?_
      rotate_left
      · (intro w; go_simp; try (with_reducible rfl))
      try simp only [Act.put, List.setIfInBounds_toArray, List.set_cons_zero, List.set_cons_succ]
      refine wpAny_take (i := 2) (oi := ⟨some 39, _, _, _, _, _⟩) (v := ?_) rfl (by kernel_rfl) (by kernel_rfl) (by kernel_rfl) (fun _ _ _ h => h) (Or.inl ⟨by rfl, ?_⟩) ?_
      rotate_left
      · (intro w; go_simp; try (with_reducible rfl))
      try simp only [Act.put, List.setIfInBounds_toArray, List.set_cons_zero, List.set_cons_succ]
      refine wpAny_take (i := 3) (oi := ⟨some 40, _, _, _, _, _⟩) (v := ?_) rfl (by kernel_rfl) (by kernel_rfl) (by kernel_rfl) (fun _ _ _ h => h) (Or.inl ⟨by rfl, ?_⟩) ?_
      rotate_left
      · (intro w; go_simp; try (with_reducible rfl))
      try simp only [Act.put, List.setIfInBounds_toArray, List.set_cons_zero, List.set_cons_succ]
      refine wpAny_take (i := 4) (oi := ⟨some 41, _, _, _, _, _⟩) (v := ?_) rfl (by kernel_rfl) (by kernel_rfl) (by kernel_rfl) (fun _ _ _ h => h) (Or.inl ⟨by rfl, ?_⟩) ?_
      rotate_left
      · (intro w; go_simp; try (with_reducible rfl))
      try simp only [Act.put, List.setIfInBounds_toArray, List.set_cons_zero, List.set_cons_succ]
      refine wpAny_take (i := 5) (oi := ⟨some 42, _, _, _, _, _⟩) (v := ?_) rfl (by kernel_rfl) (by kernel_rfl) (by kernel_rfl) (fun _ _ _ h => h) (Or.inl ⟨by rfl, ?_⟩) ?_
      rotate_left
      · (intro w; go_simp; try (with_reducible rfl))
      try simp only [Act.put, List.setIfInBounds_toArray, List.set_cons_zero, List.set_cons_succ]
      refine wpAny_take (i := 6) (oi := ⟨some 43, _, _, _, _, _⟩) (v := ?_) rfl (by kernel_rfl) (by kernel_rfl) (by kernel_rfl) (fun _ _ _ h => h) (Or.inl ⟨by rfl, ?_⟩) ?_
      rotate_left
      · (intro w; go_simp; try (with_reducible rfl))
      try simp only [Act.put, List.setIfInBounds_toArray, List.set_cons_zero, List.set_cons_succ]
      refine wpAny_ready (rs := [0, 7]) (by kernel_rfl) (by simp) ?_
      refine AllReady.cons (o := ⟨some 37, _, _, _, _, _⟩) rfl (fun K hK => ?_) (AllReady.cons (o := ⟨some 44, _, _, _, _, _⟩) rfl (fun K hK => ?_) AllReady.nil)
      · skip
        rw [if_pos (by kernel_rfl)]
        refine wp_load_mid 27 _ (by rfl) b3 0 (by rfl) (voC o (.slice none 0 0)) _ (fun j x hj => by rw [Nat.zero_add]; exact (Bx.of_blk XX.out).2 j x hj) Try.underlying27 rfl (by kernel_rfl) ?_
        rw [← vo_voC]
        refine hK _ _ ?_; clear hK K
        try simp only [Act.put, List.setIfInBounds_toArray, List.set_cons_zero, List.set_cons_succ]
        refine wpAny_ready (rs := [7]) (by kernel_rfl) (by simp) ?_
        refine AllReady.cons (o := ⟨some 44, _, _, _, _, _⟩) rfl (fun K hK => ?_) AllReady.nil
        go_simp
        go_at_call 95
        refine (byte_u v n xs s3 g _ CC.out).mono ?_
        rw [← HB.out, ← HS4.out]
        rintro e V1 ⟨rfl, hc, hg⟩
        have CC := Lib.hid hc
        have GG := Lib.hid (GG.out.trans hg)
        have XX := Lib.hid (XX.out.grewS hg (by have := HNE.out; omega))
        have YY := Lib.hid (YY.out.grewS hg hgl)
        have SS := Lib.hid (Nat.le_trans SS.out hg.size)
        clear hc hg
        try go_wp2_with fail
        try (refine hK _ _ ?_; clear hK K)
        try simp only [Act.put, List.setIfInBounds_toArray, List.set_cons_zero, List.set_cons_succ]
        refine wpAny_take (i := 8) (oi := ⟨some 45, _, _, _, _, _⟩) (v := ?_) rfl (by kernel_rfl) (by kernel_rfl) (by kernel_rfl) (fun _ _ _ h => h) (Or.inl ⟨by rfl, ?_⟩) ?_
        rotate_left
        · (intro w; go_simp; try (with_reducible rfl))
        try simp only [Act.put, List.setIfInBounds_toArray, List.set_cons_zero, List.set_cons_succ]
        refine wpAny_ready (rs := [9]) (by kernel_rfl) (by simp) ?_
        refine AllReady.cons (o := ⟨some 46, _, _, _, _, _⟩) rfl (fun K hK => ?_) AllReady.nil
        go_simp
        go_at_call 93
        refine (long_s m2 bb _ (by omega) hbb).mono ?_
        rw [← HTT.out]
        rintro e V2 ⟨rfl, hb⟩
        have CC := Lib.hid (CC.out.below hb)
        have GG := Lib.hid (GG.out.trans (Grew.of_below hb))
        have XX := Lib.hid (XX.out.below hb XX.out.lt)
        have YY := Lib.hid (YY.out.below hb YY.out.lt)
        have SS := Lib.hid (Nat.le_trans SS.out hb.size)
        clear hb
        try go_wp2_with fail
        try (refine hK _ _ ?_; clear hK K)
        try simp only [Act.put, List.setIfInBounds_toArray, List.set_cons_zero, List.set_cons_succ]
        refine wpAny_ready (rs := [10]) (by kernel_rfl) (by simp) ?_
        refine AllReady.cons (o := ⟨some 47, _, _, _, _, _⟩) rfl (fun K hK => ?_) AllReady.nil
        go_simp
        go_at_call 89
        refine (put_s o none 0 0 N i TT _ i1 i12).mono ?_
        rw [← HU.out]
        rintro e V3 ⟨rfl, hb⟩
        have CC := Lib.hid (CC.out.below hb)
        have GG := Lib.hid (GG.out.trans (Grew.of_below hb))
        have XX := Lib.hid (XX.out.below hb XX.out.lt)
        have YY := Lib.hid (YY.out.below hb YY.out.lt)
        have SS := Lib.hid (Nat.le_trans SS.out hb.size)
        clear hb
        try go_wp2_with fail
        try (refine hK _ _ ?_; clear hK K)
        try simp only [Act.put, List.setIfInBounds_toArray, List.set_cons_zero, List.set_cons_succ]
        refine wpAny_ready (rs := [11]) (by kernel_rfl) (by simp) ?_
        refine AllReady.cons (o := ⟨none, _, _, _, _, _⟩) rfl (fun K hK => ?_) AllReady.nil
        rw [if_pos (by kernel_rfl)]
        refine wp_store_mid 27 _ _ (by rfl) b3 0 (voC u (.slice none 0 0)).toArray (by rfl) (by rfl) (XX.out.there _ rfl) (by kernel_rfl) (voC_one u _ _ _) ?_
        refine hK _ _ ?_; clear hK K
        try simp only [Act.put, List.setIfInBounds_toArray, List.set_cons_zero, List.set_cons_succ]
        refine wpAny_done (by kernel_rfl) ?_ _
        obtain ⟨w7, hw7⟩ : ∃ w7, w7 = V3.setCells b3 0 (voC u (.slice none 0 0)).toArray.toList := ⟨_, rfl⟩
        rw [← hw7]
        rw [show (voC u (.slice none 0 0)).toArray.toList = voC u (.slice none 0 0) from rfl] at hw7
        have T3 : Hid (Blk w7 b3 27 (voC u (.slice none 0 0))) := Lib.hid (by rw [hw7]; exact XX.out.setCells rfl)
        have T4 : Hid (Blk w7 w.heap.size 27 (voC (OD.new 0 []) (.slice none 0 0))) := Lib.hid (by rw [hw7]; exact YY.out.farS (by have := HNE.out; omega) _ _)
        have BT : Below b3 V3 w7 := by rw [hw7]; exact Below.setCells' (Below.refl _ _) (Nat.le_refl _) _ _
        have TC := Lib.hid (CC.out.belowB BT (by have := HNE.out; omega))
        have TG : Hid (Grew w w7 g) := Lib.hid (GG.out.below_trans (BT.mono (by have := HNE.out; omega)))
        have TS : Hid (b3 + 1 ≤ w7.heap.size) := Lib.hid (by rw [hw7, setCells_size]; exact SS.out)
        clear hw7 BT CC GG XX YY SS
        go_wp2
        go_roundw
        case rel => exact ⟨j + 1, u, s4, by omega, by rw [show (j + 1) * 2 = p + 2 by have := HP.out; omega]; go_num, HF2, HV2, HI2, HK2, T3, T4, TC, TG, TS⟩
        case measure => (have := HP.out; simp [intOf]; try omega)
      · skip
        go_simp
        go_at_call 95
        refine (byte_u v n xs s3 g _ CC.out).mono ?_
        rw [← HB.out, ← HS4.out]
        rintro e V1 ⟨rfl, hc, hg⟩
        have CC := Lib.hid hc
        have GG := Lib.hid (GG.out.trans hg)
        have XX := Lib.hid (XX.out.grewS hg (by have := HNE.out; omega))
        have YY := Lib.hid (YY.out.grewS hg hgl)
        have SS := Lib.hid (Nat.le_trans SS.out hg.size)
        clear hc hg
        try go_wp2_with fail
        try (refine hK _ _ ?_; clear hK K)
        try simp only [Act.put, List.setIfInBounds_toArray, List.set_cons_zero, List.set_cons_succ]
        refine wpAny_take (i := 8) (oi := ⟨some 45, _, _, _, _, _⟩) (v := ?_) rfl (by kernel_rfl) (by kernel_rfl) (by kernel_rfl) (fun _ _ _ h => h) (Or.inl ⟨by rfl, ?_⟩) ?_
        rotate_left
        · (intro w; go_simp; try (with_reducible rfl))
        try simp only [Act.put, List.setIfInBounds_toArray, List.set_cons_zero, List.set_cons_succ]
        refine wpAny_ready (rs := [0, 9]) (by kernel_rfl) (by simp) ?_
        refine AllReady.cons (o := ⟨some 37, _, _, _, _, _⟩) rfl (fun K hK => ?_) (AllReady.cons (o := ⟨some 46, _, _, _, _, _⟩) rfl (fun K hK => ?_) AllReady.nil)
        · skip
          rw [if_pos (by kernel_rfl)]
          refine wp_load_mid 27 _ (by rfl) b3 0 (by rfl) (voC o (.slice none 0 0)) _ (fun j x hj => by rw [Nat.zero_add]; exact (Bx.of_blk XX.out).2 j x hj) Try.underlying27 rfl (by kernel_rfl) ?_
          rw [← vo_voC]
          refine hK _ _ ?_; clear hK K
          try simp only [Act.put, List.setIfInBounds_toArray, List.set_cons_zero, List.set_cons_succ]
          refine wpAny_ready (rs := [9]) (by kernel_rfl) (by simp) ?_
          refine AllReady.cons (o := ⟨some 46, _, _, _, _, _⟩) rfl (fun K hK => ?_) AllReady.nil
          go_simp
          go_at_call 93
          refine (long_s m2 bb _ (by omega) hbb).mono ?_
          rw [← HTT.out]
          rintro e V2 ⟨rfl, hb⟩
          have CC := Lib.hid (CC.out.below hb)
          have GG := Lib.hid (GG.out.trans (Grew.of_below hb))
          have XX := Lib.hid (XX.out.below hb XX.out.lt)
          have YY := Lib.hid (YY.out.below hb YY.out.lt)
          have SS := Lib.hid (Nat.le_trans SS.out hb.size)
          clear hb
          try go_wp2_with fail
          try (refine hK _ _ ?_; clear hK K)
          try simp only [Act.put, List.setIfInBounds_toArray, List.set_cons_zero, List.set_cons_succ]
          refine wpAny_ready (rs := [10]) (by kernel_rfl) (by simp) ?_
          refine AllReady.cons (o := ⟨some 47, _, _, _, _, _⟩) rfl (fun K hK => ?_) AllReady.nil
          go_simp
          go_at_call 89
          refine (put_s o none 0 0 N i TT _ i1 i12).mono ?_
          rw [← HU.out]
          rintro e V3 ⟨rfl, hb⟩
          have CC := Lib.hid (CC.out.below hb)
          have GG := Lib.hid (GG.out.trans (Grew.of_below hb))
          have XX := Lib.hid (XX.out.below hb XX.out.lt)
          have YY := Lib.hid (YY.out.below hb YY.out.lt)
          have SS := Lib.hid (Nat.le_trans SS.out hb.size)
          clear hb
          try go_wp2_with fail
          try (refine hK _ _ ?_; clear hK K)
          try simp only [Act.put, List.setIfInBounds_toArray, List.set_cons_zero, List.set_cons_succ]
          refine wpAny_ready (rs := [11]) (by kernel_rfl) (by simp) ?_
          refine AllReady.cons (o := ⟨none, _, _, _, _, _⟩) rfl (fun K hK => ?_) AllReady.nil
          rw [if_pos (by kernel_rfl)]
          refine wp_store_mid 27 _ _ (by rfl) b3 0 (voC u (.slice none 0 0)).toArray (by rfl) (by rfl) (XX.out.there _ rfl) (by kernel_rfl) (voC_one u _ _ _) ?_
          refine hK _ _ ?_; clear hK K
          try simp only [Act.put, List.setIfInBounds_toArray, List.set_cons_zero, List.set_cons_succ]
          refine wpAny_done (by kernel_rfl) ?_ _
          obtain ⟨w7, hw7⟩ : ∃ w7, w7 = V3.setCells b3 0 (voC u (.slice none 0 0)).toArray.toList := ⟨_, rfl⟩
          rw [← hw7]
          rw [show (voC u (.slice none 0 0)).toArray.toList = voC u (.slice none 0 0) from rfl] at hw7
          have T3 : Hid (Blk w7 b3 27 (voC u (.slice none 0 0))) := Lib.hid (by rw [hw7]; exact XX.out.setCells rfl)
          have T4 : Hid (Blk w7 w.heap.size 27 (voC (OD.new 0 []) (.slice none 0 0))) := Lib.hid (by rw [hw7]; exact YY.out.farS (by have := HNE.out; omega) _ _)
          have BT : Below b3 V3 w7 := by rw [hw7]; exact Below.setCells' (Below.refl _ _) (Nat.le_refl _) _ _
          have TC := Lib.hid (CC.out.belowB BT (by have := HNE.out; omega))
          have TG : Hid (Grew w w7 g) := Lib.hid (GG.out.below_trans (BT.mono (by have := HNE.out; omega)))
          have TS : Hid (b3 + 1 ≤ w7.heap.size) := Lib.hid (by rw [hw7, setCells_size]; exact SS.out)
          clear hw7 BT CC GG XX YY SS
          go_wp2
          go_roundw
          case rel => exact ⟨j + 1, u, s4, by omega, by rw [show (j + 1) * 2 = p + 2 by have := HP.out; omega]; go_num, HF2, HV2, HI2, HK2, T3, T4, TC, TG, TS⟩
          case measure => (have := HP.out; simp [intOf]; try omega)
        · skip
          go_simp
          go_at_call 93
          refine (long_s m2 bb _ (by omega) hbb).mono ?_
          rw [← HTT.out]
          rintro e V2 ⟨rfl, hb⟩
          have CC := Lib.hid (CC.out.below hb)
          have GG := Lib.hid (GG.out.trans (Grew.of_below hb))
          have XX := Lib.hid (XX.out.below hb XX.out.lt)
          have YY := Lib.hid (YY.out.below hb YY.out.lt)
          have SS := Lib.hid (Nat.le_trans SS.out hb.size)
          clear hb
          try go_wp2_with fail
          try (refine hK _ _ ?_; clear hK K)
          try simp only [Act.put, List.setIfInBounds_toArray, List.set_cons_zero, List.set_cons_succ]
          refine wpAny_ready (rs := [0]) (by kernel_rfl) (by simp) ?_
          refine AllReady.cons (o := ⟨some 37, _, _, _, _, _⟩) rfl (fun K hK => ?_) AllReady.nil
          rw [if_pos (by kernel_rfl)]
          refine wp_load_mid 27 _ (by rfl) b3 0 (by rfl) (voC o (.slice none 0 0)) _ (fun j x hj => by rw [Nat.zero_add]; exact (Bx.of_blk XX.out).2 j x hj) Try.underlying27 rfl (by kernel_rfl) ?_
          rw [← vo_voC]
          refine hK _ _ ?_; clear hK K
          try simp only [Act.put, List.setIfInBounds_toArray, List.set_cons_zero, List.set_cons_succ]
          refine wpAny_ready (rs := [10]) (by kernel_rfl) (by simp) ?_
          refine AllReady.cons (o := ⟨some 47, _, _, _, _, _⟩) rfl (fun K hK => ?_) AllReady.nil
          go_simp
          go_at_call 89
          refine (put_s o none 0 0 N i TT _ i1 i12).mono ?_
          rw [← HU.out]
          rintro e V3 ⟨rfl, hb⟩
          have CC := Lib.hid (CC.out.below hb)
          have GG := Lib.hid (GG.out.trans (Grew.of_below hb))
          have XX := Lib.hid (XX.out.below hb XX.out.lt)
          have YY := Lib.hid (YY.out.below hb YY.out.lt)
          have SS := Lib.hid (Nat.le_trans SS.out hb.size)
          clear hb
          try go_wp2_with fail
          try (refine hK _ _ ?_; clear hK K)
          try simp only [Act.put, List.setIfInBounds_toArray, List.set_cons_zero, List.set_cons_succ]
          refine wpAny_ready (rs := [11]) (by kernel_rfl) (by simp) ?_
          refine AllReady.cons (o := ⟨none, _, _, _, _, _⟩) rfl (fun K hK => ?_) AllReady.nil
          rw [if_pos (by kernel_rfl)]
          refine wp_store_mid 27 _ _ (by rfl) b3 0 (voC u (.slice none 0 0)).toArray (by rfl) (by rfl) (XX.out.there _ rfl) (by kernel_rfl) (voC_one u _ _ _) ?_
          refine hK _ _ ?_; clear hK K
          try simp only [Act.put, List.setIfInBounds_toArray, List.set_cons_zero, List.set_cons_succ]
          refine wpAny_done (by kernel_rfl) ?_ _
          obtain ⟨w7, hw7⟩ : ∃ w7, w7 = V3.setCells b3 0 (voC u (.slice none 0 0)).toArray.toList := ⟨_, rfl⟩
          rw [← hw7]
          rw [show (voC u (.slice none 0 0)).toArray.toList = voC u (.slice none 0 0) from rfl] at hw7
          have T3 : Hid (Blk w7 b3 27 (voC u (.slice none 0 0))) := Lib.hid (by rw [hw7]; exact XX.out.setCells rfl)
          have T4 : Hid (Blk w7 w.heap.size 27 (voC (OD.new 0 []) (.slice none 0 0))) := Lib.hid (by rw [hw7]; exact YY.out.farS (by have := HNE.out; omega) _ _)
          have BT : Below b3 V3 w7 := by rw [hw7]; exact Below.setCells' (Below.refl _ _) (Nat.le_refl _) _ _
          have TC := Lib.hid (CC.out.belowB BT (by have := HNE.out; omega))
          have TG : Hid (Grew w w7 g) := Lib.hid (GG.out.below_trans (BT.mono (by have := HNE.out; omega)))
          have TS : Hid (b3 + 1 ≤ w7.heap.size) := Lib.hid (by rw [hw7, setCells_size]; exact SS.out)
          clear hw7 BT CC GG XX YY SS
          go_wp2
          go_roundw
          case rel => exact ⟨j + 1, u, s4, by omega, by rw [show (j + 1) * 2 = p + 2 by have := HP.out; omega]; go_num, HF2, HV2, HI2, HK2, T3, T4, TC, TG, TS⟩
          case measure => (have := HP.out; simp [intOf]; try omega)
    · have q2 : (((ltr i).toNat : Int) == 102) = false := by
        rcases (show i = 1 ∨ i = 2 ∨ i = 3 ∨ i = 4 ∨ i = 5 ∨ i = 6 ∨ i = 7 ∨ i = 8 ∨ i = 9 ∨ i = 11 ∨ i = 12 by omega) with rfl | rfl | rfl | rfl | rfl | rfl | rfl | rfl | rfl | rfl | rfl <;> rfl
      obtain ⟨N, hN⟩ : ∃ N, N = N0 := ⟨_, rfl⟩
      have hNl : N < 200 := by omega
      obtain ⟨s3, hs3⟩ : ∃ s, s = sa := ⟨_, rfl⟩
      obtain ⟨bb, hbq⟩ : ∃ b, b = byteX xs s3 := ⟨_, rfl⟩
      obtain ⟨s4, hs4⟩ : ∃ s, s = byteN xs s3 := ⟨_, rfl⟩
      obtain ⟨TT, hTT⟩ : ∃ T, T = str (longL m2 bb) := ⟨_, rfl⟩
      obtain ⟨u, hu⟩ : ∃ u, u = o.put i (N : Int) (N != 0) TT := ⟨_, rfl⟩
      have HF2 : Hid (fldAll xs (lay (K : Int)) (OD.new (K : Int) [], s1) = fldAll xs ((lay (K : Int)).drop (j + 1)) (u, s4)) := Lib.hid (by
        rw [HF.out, HDR.out]
        show fldAll xs _ (fldStep xs (i, m2) o s2) = _
        unfold fldStep
        rw [if_neg hi10, ← HSA.out, ← HN0.out, ← hN, ← hs3, ← hbq, ← hs4, ← hTT, ← hu])
      have HB := Lib.hid hbq
      have HS4 := Lib.hid hs4
      have HTT := Lib.hid hTT
      have HU := Lib.hid hu
      have HV2 : Hid u.wf := Lib.hid (by rw [hu]; exact wf_put HV.out i (i64R_nat (by omega)) (by rw [hTT, str_size]; unfold longL maxLen; rw [List.length_replicate]; omega))
      have HI2 : Hid (u.ids = []) := Lib.hid (by rw [hu, put_ids]; exact HI.out)
      have HK2 : Hid (u.k = (K : Int)) := Lib.hid (by rw [hu, put_k]; exact HOK.out)
      rw [← hs3] at C5
      rw [← hN]
      clear hN hs3 hbq hs4 hTT hu hi10
      have C4 := C5
      have G4 := G5
      have X4 := X5
      have Y4 := Y5
      have S4 := S5
      clear C5 G5 X5 Y5 S5
      have CC := Lib.hid (C4.out.below (Below.refl _ _).drew)
      have GG := Lib.hid G4.out.drew
      have XX := Lib.hid X4.out.drew
      have YY := Lib.hid Y4.out.drew
      have SS := S4
      clear C4 G4 X4 Y4 S4
      have hbb : bb < 256 := by rw [HB.out]; exact byteX_lt _ _
      have wx8 : IntKind.u8.wrap (bb : Int) = (bb : Int) := by rw [IntKind.wrap_u8]; omega
      go_wp2_with fail
      refine wp_region_any (by kernel_rfl) ?_
      try (change wpAny _ _ _ _ _ _ _ (World.drew _))
      refine wpAny_take (i := 1) (oi := ⟨some 38, _, _, _, _, _⟩) (v := ?_) rfl (by kernel_rfl) (by kernel_rfl) (by kernel_rfl) (fun _ _ _ h => h) (Or.inl ⟨by rfl, ?_⟩) ?_
      rotate_left
      · (intro w; go_simp; try (with_reducible rfl))
      try simp only [Act.put, List.setIfInBounds_toArray, List.set_cons_zero, List.set_cons_succ]
      refine wpAny_take (i := 2) (oi := ⟨some 39, _, _, _, _, _⟩) (v := ?_) rfl (by kernel_rfl) (by kernel_rfl) (by kernel_rfl) (fun _ _ _ h => h) (Or.inl ⟨by rfl, ?_⟩) ?_
      rotate_left
      · (intro w; go_simp; try (with_reducible rfl))
      try simp only [Act.put, List.setIfInBounds_toArray, List.set_cons_zero, List.set_cons_succ]
      refine wpAny_take (i := 3) (oi := ⟨some 40, _, _, _, _, _⟩) (v := ?_) rfl (by kernel_rfl) (by kernel_rfl) (by kernel_rfl) (fun _ _ _ h => h) (Or.inl ⟨by rfl, ?_⟩) ?_
      rotate_left
      · (intro w; go_simp; try (with_reducible rfl))
      try simp only [Act.put, List.setIfInBounds_toArray, List.set_cons_zero, List.set_cons_succ]
      refine wpAny_take (i := 4) (oi := ⟨some 41, _, _, _, _, _⟩) (v := ?_) rfl (by kernel_rfl) (by kernel_rfl) (by kernel_rfl) (fun _ _ _ h => h) (Or.inl ⟨by rfl, ?_⟩) ?_
      rotate_left
      · (intro w; go_simp; try (with_reducible rfl))
      try simp only [Act.put, List.setIfInBounds_toArray, List.set_cons_zero, List.set_cons_succ]
      refine wpAny_take (i := 5) (oi := ⟨some 42, _, _, _, _, _⟩) (v := ?_) rfl (by kernel_rfl) (by kernel_rfl) (by kernel_rfl) (fun _ _ _ h => h) (Or.inl ⟨by rfl, ?_⟩) ?_
      rotate_left
      · (intro w; go_simp; try (with_reducible rfl))
      try simp only [Act.put, List.setIfInBounds_toArray, List.set_cons_zero, List.set_cons_succ]
      refine wpAny_take (i := 6) (oi := ⟨some 43, _, _, _, _, _⟩) (v := ?_) rfl (by kernel_rfl) (by kernel_rfl) (by kernel_rfl) (fun _ _ _ h => h) (Or.inl ⟨by rfl, ?_⟩) ?_
      rotate_left
      · (intro w; go_simp; try (with_reducible rfl))
      try simp only [Act.put, List.setIfInBounds_toArray, List.set_cons_zero, List.set_cons_succ]
      refine wpAny_ready (rs := [0, 7]) (by kernel_rfl) (by simp) ?_
      refine AllReady.cons (o := ⟨some 37, _, _, _, _, _⟩) rfl (fun K hK => ?_) (AllReady.cons (o := ⟨some 44, _, _, _, _, _⟩) rfl (fun K hK => ?_) AllReady.nil)
      · skip
        rw [if_pos (by kernel_rfl)]
        refine wp_load_mid 27 _ (by rfl) b3 0 (by rfl) (voC o (.slice none 0 0)) _ (fun j x hj => by rw [Nat.zero_add]; exact (Bx.of_blk XX.out).2 j x hj) Try.underlying27 rfl (by kernel_rfl) ?_
        rw [← vo_voC]
        refine hK _ _ ?_; clear hK K
        try simp only [Act.put, List.setIfInBounds_toArray, List.set_cons_zero, List.set_cons_succ]
        refine wpAny_ready (rs := [7]) (by kernel_rfl) (by simp) ?_
        refine AllReady.cons (o := ⟨some 44, _, _, _, _, _⟩) rfl (fun K hK => ?_) AllReady.nil
        go_simp
        go_at_call 95
        refine (byte_u v n xs s3 g _ CC.out).mono ?_
        rw [← HB.out, ← HS4.out]
        rintro e V1 ⟨rfl, hc, hg⟩
        have CC := Lib.hid hc
        have GG := Lib.hid (GG.out.trans hg)
        have XX := Lib.hid (XX.out.grewS hg (by have := HNE.out; omega))
        have YY := Lib.hid (YY.out.grewS hg hgl)
        have SS := Lib.hid (Nat.le_trans SS.out hg.size)
        clear hc hg
        try go_wp2_with fail
        try (refine hK _ _ ?_; clear hK K)
        try simp only [Act.put, List.setIfInBounds_toArray, List.set_cons_zero, List.set_cons_succ]
        refine wpAny_take (i := 8) (oi := ⟨some 45, _, _, _, _, _⟩) (v := ?_) rfl (by kernel_rfl) (by kernel_rfl) (by kernel_rfl) (fun _ _ _ h => h) (Or.inl ⟨by rfl, ?_⟩) ?_
        rotate_left
        · (intro w; go_simp; try (with_reducible rfl))
        try simp only [Act.put, List.setIfInBounds_toArray, List.set_cons_zero, List.set_cons_succ]
        refine wpAny_ready (rs := [9]) (by kernel_rfl) (by simp) ?_
        refine AllReady.cons (o := ⟨some 46, _, _, _, _, _⟩) rfl (fun K hK => ?_) AllReady.nil
        go_simp
        go_at_call 93
        refine (long_s m2 bb _ (by omega) hbb).mono ?_
        rw [← HTT.out]
        rintro e V2 ⟨rfl, hb⟩
        have CC := Lib.hid (CC.out.below hb)
        have GG := Lib.hid (GG.out.trans (Grew.of_below hb))
        have XX := Lib.hid (XX.out.below hb XX.out.lt)
        have YY := Lib.hid (YY.out.below hb YY.out.lt)
        have SS := Lib.hid (Nat.le_trans SS.out hb.size)
        clear hb
        try go_wp2_with fail
        try (refine hK _ _ ?_; clear hK K)
        try simp only [Act.put, List.setIfInBounds_toArray, List.set_cons_zero, List.set_cons_succ]
        refine wpAny_ready (rs := [10]) (by kernel_rfl) (by simp) ?_
        refine AllReady.cons (o := ⟨some 47, _, _, _, _, _⟩) rfl (fun K hK => ?_) AllReady.nil
        go_simp
        go_at_call 89
        refine (put_s o none 0 0 N i TT _ i1 i12).mono ?_
        rw [← HU.out]
        rintro e V3 ⟨rfl, hb⟩
        have CC := Lib.hid (CC.out.below hb)
        have GG := Lib.hid (GG.out.trans (Grew.of_below hb))
        have XX := Lib.hid (XX.out.below hb XX.out.lt)
        have YY := Lib.hid (YY.out.below hb YY.out.lt)
        have SS := Lib.hid (Nat.le_trans SS.out hb.size)
        clear hb
        try go_wp2_with fail
        try (refine hK _ _ ?_; clear hK K)
        try simp only [Act.put, List.setIfInBounds_toArray, List.set_cons_zero, List.set_cons_succ]
        refine wpAny_ready (rs := [11]) (by kernel_rfl) (by simp) ?_
        refine AllReady.cons (o := ⟨none, _, _, _, _, _⟩) rfl (fun K hK => ?_) AllReady.nil
        rw [if_pos (by kernel_rfl)]
        refine wp_store_mid 27 _ _ (by rfl) b3 0 (voC u (.slice none 0 0)).toArray (by rfl) (by rfl) (XX.out.there _ rfl) (by kernel_rfl) (voC_one u _ _ _) ?_
        refine hK _ _ ?_; clear hK K
        try simp only [Act.put, List.setIfInBounds_toArray, List.set_cons_zero, List.set_cons_succ]
        refine wpAny_done (by kernel_rfl) ?_ _
        obtain ⟨w7, hw7⟩ : ∃ w7, w7 = V3.setCells b3 0 (voC u (.slice none 0 0)).toArray.toList := ⟨_, rfl⟩
        rw [← hw7]
        rw [show (voC u (.slice none 0 0)).toArray.toList = voC u (.slice none 0 0) from rfl] at hw7
        have T3 : Hid (Blk w7 b3 27 (voC u (.slice none 0 0))) := Lib.hid (by rw [hw7]; exact XX.out.setCells rfl)
        have T4 : Hid (Blk w7 w.heap.size 27 (voC (OD.new 0 []) (.slice none 0 0))) := Lib.hid (by rw [hw7]; exact YY.out.farS (by have := HNE.out; omega) _ _)
        have BT : Below b3 V3 w7 := by rw [hw7]; exact Below.setCells' (Below.refl _ _) (Nat.le_refl _) _ _
        have TC := Lib.hid (CC.out.belowB BT (by have := HNE.out; omega))
        have TG : Hid (Grew w w7 g) := Lib.hid (GG.out.below_trans (BT.mono (by have := HNE.out; omega)))
        have TS : Hid (b3 + 1 ≤ w7.heap.size) := Lib.hid (by rw [hw7, setCells_size]; exact SS.out)
        clear hw7 BT CC GG XX YY SS
        go_wp2
        go_roundw
        case rel => exact ⟨j + 1, u, s4, by omega, by rw [show (j + 1) * 2 = p + 2 by have := HP.out; omega]; go_num, HF2, HV2, HI2, HK2, T3, T4, TC, TG, TS⟩
        case measure => (have := HP.out; simp [intOf]; try omega)
      · skip
        go_simp
        go_at_call 95
        refine (byte_u v n xs s3 g _ CC.out).mono ?_
        rw [← HB.out, ← HS4.out]
        rintro e V1 ⟨rfl, hc, hg⟩
        have CC := Lib.hid hc
        have GG := Lib.hid (GG.out.trans hg)
        have XX := Lib.hid (XX.out.grewS hg (by have := HNE.out; omega))
        have YY := Lib.hid (YY.out.grewS hg hgl)
        have SS := Lib.hid (Nat.le_trans SS.out hg.size)
        clear hc hg
        try go_wp2_with fail
        try (refine hK _ _ ?_; clear hK K)
        try simp only [Act.put, List.setIfInBounds_toArray, List.set_cons_zero, List.set_cons_succ]
        refine wpAny_take (i := 8) (oi := ⟨some 45, _, _, _, _, _⟩) (v := ?_) rfl (by kernel_rfl) (by kernel_rfl) (by kernel_rfl) (fun _ _ _ h => h) (Or.inl ⟨by rfl, ?_⟩) ?_
        rotate_left
        · (intro w; go_simp; try (with_reducible rfl))
        try simp only [Act.put, List.setIfInBounds_toArray, List.set_cons_zero, List.set_cons_succ]
        refine wpAny_ready (rs := [0, 9]) (by kernel_rfl) (by simp) ?_
        refine AllReady.cons (o := ⟨some 37, _, _, _, _, _⟩) rfl (fun K hK => ?_) (AllReady.cons (o := ⟨some 46, _, _, _, _, _⟩) rfl (fun K hK => ?_) AllReady.nil)
        · skip
          rw [if_pos (by kernel_rfl)]
          refine wp_load_mid 27 _ (by rfl) b3 0 (by rfl) (voC o (.slice none 0 0)) _ (fun j x hj => by rw [Nat.zero_add]; exact (Bx.of_blk XX.out).2 j x hj) Try.underlying27 rfl (by kernel_rfl) ?_
          rw [← vo_voC]
          refine hK _ _ ?_; clear hK K
          try simp only [Act.put, List.setIfInBounds_toArray, List.set_cons_zero, List.set_cons_succ]
          refine wpAny_ready (rs := [9]) (by kernel_rfl) (by simp) ?_
          refine AllReady.cons (o := ⟨some 46, _, _, _, _, _⟩) rfl (fun K hK => ?_) AllReady.nil
          go_simp
          go_at_call 93
          refine (long_s m2 bb _ (by omega) hbb).mono ?_
          rw [← HTT.out]
          rintro e V2 ⟨rfl, hb⟩
          have CC := Lib.hid (CC.out.below hb)
          have GG := Lib.hid (GG.out.trans (Grew.of_below hb))
          have XX := Lib.hid (XX.out.below hb XX.out.lt)
          have YY := Lib.hid (YY.out.below hb YY.out.lt)
          have SS := Lib.hid (Nat.le_trans SS.out hb.size)
          clear hb
          try go_wp2_with fail
          try (refine hK _ _ ?_; clear hK K)
          try simp only [Act.put, List.setIfInBounds_toArray, List.set_cons_zero, List.set_cons_succ]
          refine wpAny_ready (rs := [10]) (by kernel_rfl) (by simp) ?_
          refine AllReady.cons (o := ⟨some 47, _, _, _, _, _⟩) rfl (fun K hK => ?_) AllReady.nil
          go_simp
          go_at_call 89
          refine (put_s o none 0 0 N i TT _ i1 i12).mono ?_
          rw [← HU.out]
          rintro e V3 ⟨rfl, hb⟩
          have CC := Lib.hid (CC.out.below hb)
          have GG := Lib.hid (GG.out.trans (Grew.of_below hb))
          have XX := Lib.hid (XX.out.below hb XX.out.lt)
          have YY := Lib.hid (YY.out.below hb YY.out.lt)
          have SS := Lib.hid (Nat.le_trans SS.out hb.size)
          clear hb
          try go_wp2_with fail
          try (refine hK _ _ ?_; clear hK K)
          try simp only [Act.put, List.setIfInBounds_toArray, List.set_cons_zero, List.set_cons_succ]
          refine wpAny_ready (rs := [11]) (by kernel_rfl) (by simp) ?_
          refine AllReady.cons (o := ⟨none, _, _, _, _, _⟩) rfl (fun K hK => ?_) AllReady.nil
          rw [if_pos (by kernel_rfl)]
          refine wp_store_mid 27 _ _ (by rfl) b3 0 (voC u (.slice none 0 0)).toArray (by rfl) (by rfl) (XX.out.there _ rfl) (by kernel_rfl) (voC_one u _ _ _) ?_
          refine hK _ _ ?_; clear hK K
          try simp only [Act.put, List.setIfInBounds_toArray, List.set_cons_zero, List.set_cons_succ]
          refine wpAny_done (by kernel_rfl) ?_ _
          obtain ⟨w7, hw7⟩ : ∃ w7, w7 = V3.setCells b3 0 (voC u (.slice none 0 0)).toArray.toList := ⟨_, rfl⟩
          rw [← hw7]
          rw [show (voC u (.slice none 0 0)).toArray.toList = voC u (.slice none 0 0) from rfl] at hw7
          have T3 : Hid (Blk w7 b3 27 (voC u (.slice none 0 0))) := Lib.hid (by rw [hw7]; exact XX.out.setCells rfl)
          have T4 : Hid (Blk w7 w.heap.size 27 (voC (OD.new 0 []) (.slice none 0 0))) := Lib.hid (by rw [hw7]; exact YY.out.farS (by have := HNE.out; omega) _ _)
          have BT : Below b3 V3 w7 := by rw [hw7]; exact Below.setCells' (Below.refl _ _) (Nat.le_refl _) _ _
          have TC := Lib.hid (CC.out.belowB BT (by have := HNE.out; omega))
          have TG : Hid (Grew w w7 g) := Lib.hid (GG.out.below_trans (BT.mono (by have := HNE.out; omega)))
          have TS : Hid (b3 + 1 ≤ w7.heap.size) := Lib.hid (by rw [hw7, setCells_size]; exact SS.out)
          clear hw7 BT CC GG XX YY SS
          go_wp2
          go_roundw
          case rel => exact ⟨j + 1, u, s4, by omega, by rw [show (j + 1) * 2 = p + 2 by have := HP.out; omega]; go_num, HF2, HV2, HI2, HK2, T3, T4, TC, TG, TS⟩
          case measure => (have := HP.out; simp [intOf]; try omega)
        · skip
          go_simp
          go_at_call 93
          refine (long_s m2 bb _ (by omega) hbb).mono ?_
          rw [← HTT.out]
          rintro e V2 ⟨rfl, hb⟩
          have CC := Lib.hid (CC.out.below hb)
          have GG := Lib.hid (GG.out.trans (Grew.of_below hb))
          have XX := Lib.hid (XX.out.below hb XX.out.lt)
          have YY := Lib.hid (YY.out.below hb YY.out.lt)
          have SS := Lib.hid (Nat.le_trans SS.out hb.size)
          clear hb
          try go_wp2_with fail
          try (refine hK _ _ ?_; clear hK K)
          try simp only [Act.put, List.setIfInBounds_toArray, List.set_cons_zero, List.set_cons_succ]
          refine wpAny_ready (rs := [0]) (by kernel_rfl) (by simp) ?_
          refine AllReady.cons (o := ⟨some 37, _, _, _, _, _⟩) rfl (fun K hK => ?_) AllReady.nil
          rw [if_pos (by kernel_rfl)]
          refine wp_load_mid 27 _ (by rfl) b3 0 (by rfl) (voC o (.slice none 0 0)) _ (fun j x hj => by rw [Nat.zero_add]; exact (Bx.of_blk XX.out).2 j x hj) Try.underlying27 rfl (by kernel_rfl) ?_
          rw [← vo_voC]
          refine hK _ _ ?_; clear hK K
          try simp only [Act.put, List.setIfInBounds_toArray, List.set_cons_zero, List.set_cons_succ]
          refine wpAny_ready (rs := [10]) (by kernel_rfl) (by simp) ?_
          refine AllReady.cons (o := ⟨some 47, _, _, _, _, _⟩) rfl (fun K hK => ?_) AllReady.nil
          go_simp
          go_at_call 89
          refine (put_s o none 0 0 N i TT _ i1 i12).mono ?_
          rw [← HU.out]
          rintro e V3 ⟨rfl, hb⟩
          have CC := Lib.hid (CC.out.below hb)
          have GG := Lib.hid (GG.out.trans (Grew.of_below hb))
          have XX := Lib.hid (XX.out.below hb XX.out.lt)
          have YY := Lib.hid (YY.out.below hb YY.out.lt)
          have SS := Lib.hid (Nat.le_trans SS.out hb.size)
          clear hb
          try go_wp2_with fail
          try (refine hK _ _ ?_; clear hK K)
          try simp only [Act.put, List.setIfInBounds_toArray, List.set_cons_zero, List.set_cons_succ]
          refine wpAny_ready (rs := [11]) (by kernel_rfl) (by simp) ?_
          refine AllReady.cons (o := ⟨none, _, _, _, _, _⟩) rfl (fun K hK => ?_) AllReady.nil
          rw [if_pos (by kernel_rfl)]
          refine wp_store_mid 27 _ _ (by rfl) b3 0 (voC u (.slice none 0 0)).toArray (by rfl) (by rfl) (XX.out.there _ rfl) (by kernel_rfl) (voC_one u _ _ _) ?_
          refine hK _ _ ?_; clear hK K
          try simp only [Act.put, List.setIfInBounds_toArray, List.set_cons_zero, List.set_cons_succ]
          refine wpAny_done (by kernel_rfl) ?_ _
          obtain ⟨w7, hw7⟩ : ∃ w7, w7 = V3.setCells b3 0 (voC u (.slice none 0 0)).toArray.toList := ⟨_, rfl⟩
          rw [← hw7]
          rw [show (voC u (.slice none 0 0)).toArray.toList = voC u (.slice none 0 0) from rfl] at hw7
          have T3 : Hid (Blk w7 b3 27 (voC u (.slice none 0 0))) := Lib.hid (by rw [hw7]; exact XX.out.setCells rfl)
          have T4 : Hid (Blk w7 w.heap.size 27 (voC (OD.new 0 []) (.slice none 0 0))) := Lib.hid (by rw [hw7]; exact YY.out.farS (by have := HNE.out; omega) _ _)
          have BT : Below b3 V3 w7 := by rw [hw7]; exact Below.setCells' (Below.refl _ _) (Nat.le_refl _) _ _
          have TC := Lib.hid (CC.out.belowB BT (by have := HNE.out; omega))
          have TG : Hid (Grew w w7 g) := Lib.hid (GG.out.below_trans (BT.mono (by have := HNE.out; omega)))
          have TS : Hid (b3 + 1 ≤ w7.heap.size) := Lib.hid (by rw [hw7, setCells_size]; exact SS.out)
          clear hw7 BT CC GG XX YY SS
          go_wp2
          go_roundw
          case rel => exact ⟨j + 1, u, s4, by omega, by rw [show (j + 1) * 2 = p + 2 by have := HP.out; omega]; go_num, HF2, HV2, HI2, HK2, T3, T4, TC, TG, TS⟩
          case measure => (have := HP.out; simp [intOf]; try omega)
end Go.Proofs.Ytkgbkgonlopciaa

namespace Go.Proofs.Ytkgbkgonlopciaa
open Go.RowKit
set_option linter.unusedVariables false
set_option linter.unusedSimpArgs false
/-- the bytes that are drawn, and the state behind them -/
noncomputable def textL (xs : List Int) : Nat → St → List UInt8 × St
  | 0, st => ([], st)
  | k + 1, st => ((textL xs k st).1 ++ [UInt8.ofNat (byteX xs (textL xs k st).2)], byteN xs (textL xs k st).2)
theorem textL_len (xs : List Int) : ∀ (k : Nat) (st : St), (textL xs k st).1.length = k
  | 0, _ => rfl
  | k + 1, st => by show ((textL xs k st).1 ++ [_]).length = k + 1; rw [List.length_append, textL_len xs k st]; rfl
set_option maxRecDepth 100000 in
set_option maxHeartbeats 1600000 in
theorem text_u (v : Value) (n : Nat) (xs : List Int) (st : St) (g M : Nat) (w : World) (hc : CurS v n xs w g st) (hM : M ≤ 5000) :
    Calls Try.prog 100 #[.pointer (some ⟨g, 0, none⟩), .int .i64 (M : Int)] w fun e w' => e = .returned (.string (str (textL xs M st).1)) ∧ CurS v n xs w' g (textL xs M st).2 ∧ Grew w w' g := by
  have hgl := hc.lt
  have HC := Lib.hid hc
  clear hc
  obtain ⟨i0, hi, hz0, hz1, hz2⟩ := info_parts u8_info'
  go_enter Try.func100, Try.ntmps100
  go_wp2
  obtain ⟨W, hW⟩ : ∃ W, W = w.alloc (.cells #[] 5) := ⟨_, rfl⟩
  rw [← hW]
  have O1 : Hid (Obs W w.heap.size 1 (.slice (some ⟨w.heap.size, 0, none⟩) 0 0) 0 ((textL xs 0 st).1.map vb)) := Lib.hid (by rw [hW]; exact obs_emptyI w 5 1 _ (Nat.le_refl _))
  have C1 : Hid (CurS v n xs W g (textL xs 0 st).2) := Lib.hid (by rw [hW]; exact HC.out.below ((Below.refl _ _).alloc (Nat.le_refl _) _))
  have G1 : Hid (Grew w W g) := Lib.hid (by rw [hW]; exact Grew.of_below ((Below.refl _ _).alloc (Nat.le_refl _) _))
  have S1 : Hid (w.heap.size ≤ W.heap.size) := Lib.hid G1.out.size
  clear hW HC
  go_loopw [5, 6] (fun d i wr => ∃ (k cv : Nat) (Av : Option Addr), k ≤ M ∧ i = .int .i64 (k : Int) ∧ d = .slice Av k cv ∧ Hid (Obs wr w.heap.size 1 (.slice Av k cv) k ((textL xs k st).1.map vb)) ∧ Hid (CurS v n xs wr g (textL xs k st).2) ∧ Hid (Grew w wr g) ∧ Hid (w.heap.size ≤ wr.heap.size)) (fun _ i _ => M - (intOf i).toNat)
  case atStart => exact ⟨0, 0, _, Nat.zero_le _, rfl, rfl, O1, C1, G1, S1⟩
  case round =>
    clear O1 C1 G1 S1
    obtain ⟨k, cv, Av, hk, rfl, rfl, OV, C5, G5, S5⟩ := hrel
    by_cases hlt : k < M
    · obtain ⟨bb, hbb⟩ : ∃ b, b = byteX xs (textL xs k st).2 := ⟨_, rfl⟩
      have hb256 : bb < 256 := by rw [hbb]; exact byteX_lt _ _
      have HT1 : Hid ((textL xs (k + 1) st).1 = (textL xs k st).1 ++ [UInt8.ofNat bb]) := Lib.hid (by rw [hbb]; rfl)
      have HT2 : Hid ((textL xs (k + 1) st).2 = byteN xs (textL xs k st).2) := Lib.hid rfl
      have HBB := Lib.hid hbb
      have wx8 : IntKind.u8.wrap (bb : Int) = (bb : Int) := by rw [IntKind.wrap_u8]; omega
      clear hbb
      go_wp2_with fail
      refine (byte_u v n xs _ g _ C5.out).mono ?_
      rw [← HBB.out, ← HT2.out]
      rintro e w6 ⟨rfl, hc, hg⟩
      have C6 := Lib.hid hc
      have G6 := Lib.hid (G5.out.trans hg)
      have S6 := Lib.hid (Nat.le_trans S5.out hg.size)
      have O6 := Lib.hid (OV.out.grew hg (fun q hq => by have := (OV.out.lt q hq).1; omega))
      have HVB : Hid (Value.int .u8 (bb : Int) = vb (UInt8.ofNat bb)) := Lib.hid (by unfold vb; congr 1; have : (UInt8.ofNat bb).toNat = bb := by simp; omega
                                                                                     rw [this])
      clear hc hg C5 G5 S5 OV
      go_wp2_with (at_builtin; refine wpList_append_obs2 _ rfl _ _ 40 rfl w.heap.size 5 i0 (.int .u8 0) 1 1 Try.underlying40 hi hz0 hz1 hz2 rfl (by decide) _ k _ rfl (O6.out.alloc _) w.heap.size _ 1 _ rfl (obs_one w6 5 (.int .u8 (bb : Int)) w.heap.size S6.out) (by intro u hu; obtain rfl := List.mem_singleton.1 hu; rfl) (by unfold maxLen; omega) (by omega) (by have := S6.out; simp; omega) ?_; intro v3 w7 hown3 hb3 hg3)
      have O7 : Hid (Obs w7 w.heap.size 1 v3 (k + 1) ((textL xs (k + 1) st).1.map vb)) := Lib.hid (by rw [HT1.out, List.map_append]; rw [show ([UInt8.ofNat bb].map vb) = [Value.int .u8 (bb : Int)] by rw [HVB.out]; rfl]; exact hown3)
      have C7 := Lib.hid ((C6.out.below ((Below.refl _ _).alloc (Nat.le_refl _) (.cells #[.int .u8 (bb : Int)] 5))).belowB hb3 hgl)
      have G7 := Lib.hid ((G6.out.trans (Grew.of_below ((Below.refl _ _).alloc (Nat.le_refl _) (.cells #[.int .u8 (bb : Int)] 5)))).below_trans hb3)
      have S7 : Hid (w.heap.size ≤ w7.heap.size) := Lib.hid G7.out.size
      clear hown3 hb3 hg3
      obtain ⟨A3, c3, rfl⟩ := O7.out.shape
      go_roundw
      case rel => exact ⟨k + 1, c3, A3, by omega, by go_num, rfl, O7, C7, G7, S7⟩
      case measure => (simp [intOf]; try omega)
    · obtain rfl : k = M := by omega
      have hst : Sem.run Try.prog (convert 40 9 (.slice Av k cv)) wr = .ok (.string (str (textL xs k st).1)) wr := obs_string (P := Try.prog) wr 40 9 5 Try.underlying40 Try.underlying5 Try.underlying9 OV.out
      go_wp2
      go_ret
      exact ⟨rfl, C5.out, G5.out⟩
end Go.Proofs.Ytkgbkgonlopciaa

namespace Go.Proofs.Ytkgbkgonlopciaa
open Go.RowKit
set_option linter.unusedVariables false
set_option linter.unusedSimpArgs false
def pick1 : List Int := [-1, 256, 7, 255]
def pick2 : List Int := [0, 7, 8, 20]
def pick4 : List Int := [281474976710655, 281474976710656, -1]
/-- what is turned in an option: by the number that was drawn -/
noncomputable def anyK (xs : List Int) (o : OD) (c : Nat) (s : St) : OD × St :=
  if c = 0 then ({ o with k := (belowX xs 12 s : Nat) }, belowN xs 12 s)
  else if c = 1 then ({ o with id := pick1.getD (belowX xs 4 s) 0 }, belowN xs 4 s)
  else if c = 2 then ({ o with ma := str (textL xs (pick2.getD (belowX xs 4 s) 0).toNat (belowN xs 4 s)).1 }, (textL xs (pick2.getD (belowX xs 4 s) 0).toNat (belowN xs 4 s)).2)
  else if c = 3 then ({ o with ids := [(belowX xs 3 s : Nat), (belowX xs 3 (belowN xs 3 s) : Nat)] }, belowN xs 3 (belowN xs 3 s))
  else if c = 4 then ({ o with se := pick4.getD (belowX xs 3 s) 0 }, belowN xs 3 s)
  else if c = 5 then ({ o with fl := true }, s)
  else (o, s)
noncomputable def anyX (xs : List Int) (st : St) : OD × St := anyK xs (optX xs st).1 (belowX xs 14 (optX xs st).2) (belowN xs 14 (optX xs st).2)
theorem obs_lit (w : World) (e : TypeId) (cs : Array Value) (n B : Nat) (hB : B ≤ w.heap.size) (hn : cs.toList.length = n) (hm : n ≤ maxLen) : Obs (w.alloc (.cells cs e)) B 1 (.slice (some ⟨w.heap.size, 0, none⟩) n n) n cs.toList :=
  Obs.of_own (World.ownsRow_lit (base := B) (e := e) (size := 1) w cs n hB hm (by rw [← Array.length_toList, hn]; simp))
theorem getD_mem4 {p : Int → Prop} {l : List Int} (hl : ∀ x ∈ l, p x) (h0 : p 0) (k : Nat) : p (l.getD k 0) := by
  rw [List.getD_eq_getElem?_getD]
  cases h : l[k]? with
  | none => exact h0
  | some x => exact hl x (List.mem_of_getElem? h)
set_option maxRecDepth 100000 in
set_option maxHeartbeats 6400000 in
theorem any_u (v : Value) (n : Nat) (xs : List Int) (st : St) (g : Nat) (w : World) (hc : CurS v n xs w g st) : Calls Try.prog 84 #[.pointer (some ⟨g, 0, none⟩)] w (GivesO v n xs (anyX xs st) g w) := by
  have hgl := hc.lt
  obtain ⟨R, hR⟩ : ∃ R, R = anyX xs st := ⟨_, rfl⟩
  rw [← hR]
  have HR := Lib.hid hR
  have HC := Lib.hid hc
  clear hR hc
  go_enter Try.func84, Try.ntmps84
  go_upto_region 1 with (fail)
  obtain ⟨W, hW⟩ : ∃ W, W = w.alloc (.cells (voC (OD.new 0 []) (.slice none 0 0)).toArray 27) := ⟨_, rfl⟩
  change Code.wp _ _ _ _ (w.alloc (.cells (voC (OD.new 0 []) (.slice none 0 0)).toArray 27))
  rw [← hW]
  have E0 := (Below.refl w.heap.size w).alloc (Nat.le_refl _) (.cells (voC (OD.new 0 []) (.slice none 0 0)).toArray 27)
  have X0 := Lib.hid (Blk.new w 27 (voC (OD.new 0 []) (.slice none 0 0)).toArray)
  rw [← hW] at E0 X0
  have C0 := Lib.hid (HC.out.below E0)
  have G0 : Hid (Grew w W g) := Lib.hid (Grew.of_below E0)
  have S0 : Hid (w.heap.size + 1 ≤ W.heap.size) := Lib.hid X0.out.lt
  clear hW HC E0
  go_wp2_with fail
  refine (opt_u v n xs st g _ C0.out).mono ?_
  rintro e w1 ⟨iv, rfl, ho, hc, hg, hwf, hid⟩
  have HRX : Hid (R = anyK xs (optX xs st).1 (belowX xs 14 (optX xs st).2) (belowN xs 14 (optX xs st).2)) := Lib.hid HR.out
  obtain ⟨q, hq⟩ : ∃ q, q = optX xs st := ⟨_, rfl⟩
  rw [← hq] at ho hc hwf hid HRX ⊢
  clear hq HR
  obtain ⟨o, s1⟩ := q
  dsimp only at ho hc hwf hid HRX ⊢
  obtain ⟨A, cp, rfl⟩ := ho.shape
  have HWF := Lib.hid hwf
  have HID := Lib.hid hid
  have O1 := Lib.hid (ho.mono S0.out)
  have C1 := Lib.hid hc
  have G1 := Lib.hid (G0.out.trans hg)
  have X1 := Lib.hid (X0.out.grewS hg hgl)
  have S1 := Lib.hid (Nat.le_trans S0.out hg.size)
  clear ho hc hg hwf hid C0 G0 X0 S0
  go_upto_region 2 with ((refine wpl_store_opt rfl (by rfl) (by rfl) (by rfl) ?_))
  obtain ⟨W3, hW3⟩ : ∃ W, W = w1.alloc (.cells (voC o (.slice A o.ids.length cp)).toArray 27) := ⟨_, rfl⟩
  rw [← hW3]
  obtain ⟨b3, hb3⟩ : ∃ b, b = w1.heap.size := ⟨_, rfl⟩
  have E3 := (Below.refl w1.heap.size w1).alloc (Nat.le_refl _) (.cells (voC o (.slice A o.ids.length cp)).toArray 27)
  have X3 := Lib.hid (Blk.new w1 27 (voC o (.slice A o.ids.length cp)).toArray)
  rw [← hW3] at E3 X3
  rw [← hb3] at X3 ⊢
  have Y3 := Lib.hid (X1.out.below E3 X1.out.lt)
  have C3 := Lib.hid (C1.out.below E3)
  have G3 := Lib.hid (G1.out.trans (Grew.of_below E3))
  have O3 := Lib.hid (O1.out.below E3)
  have HOB : Hid (∀ q, (Value.slice A o.ids.length cp).ownBlock = some q → q < b3) := Lib.hid (fun q hq => by rw [hb3]; exact (O1.out.lt q hq).2)
  have HNE : Hid (w.heap.size + 1 ≤ b3) := Lib.hid (by rw [hb3]; exact S1.out)
  clear hW3 hb3 E3 C1 G1 X1 O1 S1
  obtain ⟨c, hcq⟩ : ∃ c, c = belowX xs 14 s1 := ⟨_, rfl⟩
  obtain ⟨s2, hs2⟩ : ∃ s, s = belowN xs 14 s1 := ⟨_, rfl⟩
  have hc14 : c < 14 := by rw [hcq]; exact belowX_lt xs s1 (by omega)
  rw [← hcq, ← hs2] at HRX
  have HCQ := Lib.hid hcq
  have HS2 := Lib.hid hs2
  clear hcq hs2
  go_wp2_with fail
  refine (below_u v n xs s1 g 14 _ C3.out (by omega) (by omega)).mono ?_
  rw [← HCQ.out, ← HS2.out]
  rintro e w4 ⟨rfl, hc, hg⟩
  have C4 := Lib.hid hc
  have G4 := Lib.hid (G3.out.trans hg)
  have X4 := Lib.hid (X3.out.grewS hg (by have := HNE.out; omega))
  have Y4 := Lib.hid (Y3.out.grewS hg hgl)
  have O4 := Lib.hid (O3.out.grew hg (fun q hq => by have := (O3.out.lt q hq).1; omega))
  clear hc hg C3 G3 X3 Y3 O3
  by_cases e6 : 6 ≤ c
  · have q0 : ((c : Int) == 0) = false := by simp; omega
    have q1 : ((c : Int) == 1) = false := by simp; omega
    have q2 : ((c : Int) == 2) = false := by simp; omega
    have q3 : ((c : Int) == 3) = false := by simp; omega
    have q4 : ((c : Int) == 4) = false := by simp; omega
    have q5 : ((c : Int) == 5) = false := by simp; omega
    have HE : Hid (R = (o, s2)) := Lib.hid (by rw [HRX.out]; unfold anyK; rw [if_neg (by omega), if_neg (by omega), if_neg (by omega), if_neg (by omega), if_neg (by omega), if_neg (by omega)])
    clear e6
    go_wp2_with (first | (refine wpl_opt (o := o) rfl (by rfl) (by rfl) (Bx.of_blk X4.out) ?_) | (refine wpl_store_optM (o := o) rfl (by rfl) (by rfl) (by rfl) Y4.out rfl ?_))
    refine bodyPost_ret (results_opt rfl (by rfl) (Bx.setCells (vs := voC o (.slice A o.ids.length cp)) Y4.out rfl)) rfl ?_
    rw [HE.out]
    have BT : Below w.heap.size w4 (w4.setCells w.heap.size 0 (voC o (.slice A o.ids.length cp))) := Below.setCells' (Below.refl _ _) (Nat.le_refl _) _ _
    exact ⟨.slice A o.ids.length cp, rfl, (O4.out.farS (by omega) _ _).mono (by omega), C4.out.belowB BT hgl, G4.out.below_trans BT, HWF.out, HID.out⟩
  by_cases e5 : c = 5
  · have q0 : ((c : Int) == 0) = false := by simp; omega
    have q1 : ((c : Int) == 1) = false := by simp; omega
    have q2 : ((c : Int) == 2) = false := by simp; omega
    have q3 : ((c : Int) == 3) = false := by simp; omega
    have q4 : ((c : Int) == 4) = false := by simp; omega
    have q5 : ((c : Int) == 5) = true := by simp; omega
    have HE : Hid (R = ({ o with fl := true }, s2)) := Lib.hid (by rw [HRX.out]; unfold anyK; rw [if_neg (by omega), if_neg (by omega), if_neg (by omega), if_neg (by omega), if_neg (by omega), if_pos e5])
    obtain ⟨o', ho'⟩ : ∃ o' : OD, o' = { o with fl := true } := ⟨_, rfl⟩
    rw [← ho'] at HE
    have y10 : w4.cell? ⟨b3, 10, none⟩ = some (.bool o.fl) := X4.out.cell 10
    have f10 := X4.out.frozen 10
    go_upto_region 15 with (fail)
    obtain ⟨W5, hW5⟩ : ∃ W, W = w4.setCell ⟨b3, 10, none⟩ (.bool true) := ⟨_, rfl⟩
    rw [← hW5]
    have hne := HNE.out
    have X5 : Hid (Blk W5 b3 27 (voC o' (.slice A o.ids.length cp))) := Lib.hid (by rw [hW5, ho']; exact X4.out.set_ 10 _)
    have Y5 : Hid (Blk W5 w.heap.size 27 (voC (OD.new 0 []) (.slice none 0 0))) := Lib.hid (by rw [hW5]; exact Y4.out.far (by dsimp only; omega) _)
    have BT5 : Below b3 w4 W5 := by rw [hW5]; exact (Below.refl _ _).setCell (by dsimp only; omega) _
    have C5 := Lib.hid (C4.out.belowB BT5 (by omega))
    have G5 := Lib.hid (G4.out.below_trans (BT5.mono (by omega)))
    have O5 : Hid (Obs W5 (w.heap.size + 1) 1 (.slice A o.ids.length cp) o.ids.length (o.ids.map vn)) := Lib.hid (O4.out.same BT5.size (fun q hq => BT5.block q (HOB.out q hq)))
    have HW5 : Hid o'.wf := Lib.hid (by rw [ho']; exact HWF.out)
    have HD5 : Hid (o'.ids = o.ids) := Lib.hid (by rw [ho'])
    clear hW5 ho' y10 f10 BT5
    go_wp2_with (first | (refine wpl_opt (o := o') rfl (by rfl) (by rfl) (Bx.of_blk X5.out) ?_) | (refine wpl_store_optM (o := o') rfl (by rfl) (by rfl) (by rfl) Y5.out rfl ?_))
    refine bodyPost_ret (results_opt rfl (by rfl) (Bx.setCells (vs := voC o' (.slice A o.ids.length cp)) Y5.out rfl)) rfl ?_
    rw [HE.out]
    have BT : Below w.heap.size W5 (W5.setCells w.heap.size 0 (voC o' (.slice A o.ids.length cp))) := Below.setCells' (Below.refl _ _) (Nat.le_refl _) _ _
    exact ⟨.slice A o.ids.length cp, rfl, ((show Obs W5 (w.heap.size + 1) 1 (.slice A o.ids.length cp) o'.ids.length (o'.ids.map vn) from by rw [HD5.out]; exact O5.out).farS (by omega) _ _).mono (by omega), C5.out.belowB BT hgl, G5.out.below_trans BT, HW5.out, by rw [show o'.ids = o.ids from HD5.out]; exact HID.out⟩
  by_cases e0 : c = 0
  · have q0 : ((c : Int) == 0) = true := by simp; omega
    have q1 : ((c : Int) == 1) = false := by simp; omega
    have q2 : ((c : Int) == 2) = false := by simp; omega
    have q3 : ((c : Int) == 3) = false := by simp; omega
    have q4 : ((c : Int) == 4) = false := by simp; omega
    have q5 : ((c : Int) == 5) = false := by simp; omega
    obtain ⟨N, hN⟩ : ∃ N, N = belowX xs 12 s2 := ⟨_, rfl⟩
    have hNl : N < 12 := by rw [hN]; exact belowX_lt xs s2 (by omega)
    obtain ⟨s3, hs3⟩ : ∃ s, s = belowN xs 12 s2 := ⟨_, rfl⟩
    have HE0 : Hid (R = ({ o with k := (N : Int) }, s3)) := Lib.hid (by rw [HRX.out]; unfold anyK; rw [if_pos e0, hN, hs3])
    have HN := Lib.hid hN
    have HS3 := Lib.hid hs3
    clear hN hs3 e0
    go_wp2_with fail
    refine (below_u v n xs s2 g 12 _ C4.out (by omega) (by omega)).mono ?_
    rw [← HN.out, ← HS3.out]
    rintro e w5 ⟨rfl, hc, hg⟩
    have hne := HNE.out
    have C5 := Lib.hid hc
    have G5 := Lib.hid (G4.out.trans hg)
    have X5 := Lib.hid (X4.out.grewS hg (by omega))
    have Y5 := Lib.hid (Y4.out.grewS hg hgl)
    have O5 := Lib.hid (O4.out.grew hg (fun q hq => by have := (O4.out.lt q hq).1; omega))
    clear hc hg C4 G4 X4 Y4 O4
    obtain ⟨o', ho'⟩ : ∃ o' : OD, o' = { o with k := (N : Int) } := ⟨_, rfl⟩
    rw [← ho'] at HE0
    have HE := HE0
    have y0 : w5.cell? ⟨b3, 0, none⟩ = some (.int .i64 o.k) := X5.out.cell 0
    have f0 := X5.out.frozen 0
    go_upto_region 15 with (fail)
    obtain ⟨W5, hW5⟩ : ∃ W, W = w5.setCell ⟨b3, 0, none⟩ (.int .i64 (N : Int)) := ⟨_, rfl⟩
    rw [← hW5]
    have X6 : Hid (Blk W5 b3 27 (voC o' (.slice A o.ids.length cp))) := Lib.hid (by rw [hW5, ho']; exact X5.out.set_ 0 _)
    have Y6 : Hid (Blk W5 w.heap.size 27 (voC (OD.new 0 []) (.slice none 0 0))) := Lib.hid (by rw [hW5]; exact Y5.out.far (by dsimp only; omega) _)
    have BT5 : Below b3 w5 W5 := by rw [hW5]; exact (Below.refl _ _).setCell (by dsimp only; omega) _
    have C6 := Lib.hid (C5.out.belowB BT5 (by omega))
    have G6 := Lib.hid (G5.out.below_trans (BT5.mono (by omega)))
    have O6 : Hid (Obs W5 (w.heap.size + 1) 1 (.slice A o.ids.length cp) o.ids.length (o.ids.map vn)) := Lib.hid (O5.out.same BT5.size (fun q hq => BT5.block q (HOB.out q hq)))
    have HW5 : Hid o'.wf := Lib.hid (by rw [ho']; exact ⟨⟨i64R_nat (by omega), HWF.out.1.2⟩, HWF.out.2⟩)
    have HD5 : Hid (o'.ids = o.ids) := Lib.hid (by rw [ho'])
    clear hW5 ho' y0 f0 BT5 HE0
    go_wp2_with (first | (refine wpl_opt (o := o') rfl (by rfl) (by rfl) (Bx.of_blk X6.out) ?_) | (refine wpl_store_optM (o := o') rfl (by rfl) (by rfl) (by rfl) Y6.out rfl ?_))
    refine bodyPost_ret (results_opt rfl (by rfl) (Bx.setCells (vs := voC o' (.slice A o.ids.length cp)) Y6.out rfl)) rfl ?_
    rw [HE.out]
    have BT : Below w.heap.size W5 (W5.setCells w.heap.size 0 (voC o' (.slice A o.ids.length cp))) := Below.setCells' (Below.refl _ _) (Nat.le_refl _) _ _
    exact ⟨.slice A o.ids.length cp, rfl, ((show Obs W5 (w.heap.size + 1) 1 (.slice A o.ids.length cp) o'.ids.length (o'.ids.map vn) from by rw [HD5.out]; exact O6.out).farS (by omega) _ _).mono (by omega), C6.out.belowB BT hgl, G6.out.below_trans BT, HW5.out, by rw [show o'.ids = o.ids from HD5.out]; exact HID.out⟩
  by_cases e1 : c = 1
  · have q0 : ((c : Int) == 0) = false := by simp; omega
    have q1 : ((c : Int) == 1) = true := by simp; omega
    have q2 : ((c : Int) == 2) = false := by simp; omega
    have q3 : ((c : Int) == 3) = false := by simp; omega
    have q4 : ((c : Int) == 4) = false := by simp; omega
    have q5 : ((c : Int) == 5) = false := by simp; omega
    have HE0 : Hid (R = ({ o with id := pick1.getD (belowX xs 4 s2) 0 }, belowN xs 4 s2)) := Lib.hid (by rw [HRX.out]; unfold anyK; rw [if_neg (by omega)]; rw [if_pos e1])
    clear e1
    obtain ⟨N, hN⟩ : ∃ N, N = pick1.getD (belowX xs 4 s2) 0 := ⟨_, rfl⟩
    obtain ⟨s3, hs3⟩ : ∃ s, s = belowN xs 4 s2 := ⟨_, rfl⟩
    rw [← hN, ← hs3] at HE0
    have HN := Lib.hid hN
    have HS3 := Lib.hid hs3
    clear hN hs3
    have P5 := Lib.hid (obs_lit w4 3 (#[.int .i64 (-1), .int .i64 (256), .int .i64 (7), .int .i64 (255)] : Array Value) 4 w4.heap.size (Nat.le_refl _) rfl (by decide))
    have E5 := Lib.hid ((Below.refl w4.heap.size w4).alloc (Nat.le_refl _) (.cells (#[.int .i64 (-1), .int .i64 (256), .int .i64 (7), .int .i64 (255)] : Array Value) 3))
    have L5 : Hid (g < w4.heap.size) := Lib.hid C4.out.lt
    go_wp2_with fail
    refine (pickInt_u v n xs s2 g _ 4 pick1 _ (C4.out.below E5.out) P5.out.rd (by omega) (by omega) (by intro b off k cap hb; simp only [Value.slice.injEq, Option.some.injEq, Addr.mk.injEq] at hb; have := L5.out; omega)).mono ?_
    rw [← HN.out, ← HS3.out]
    rintro e w5 ⟨rfl, hc, hg⟩
    have hne := HNE.out
    have X5 := Lib.hid ((X4.out.below E5.out X4.out.lt).grewS hg (by omega))
    have Y5 := Lib.hid ((Y4.out.below E5.out Y4.out.lt).grewS hg hgl)
    have O5 := Lib.hid ((O4.out.below E5.out).grew hg (fun q hq => by have := (O4.out.lt q hq).1; omega))
    have G5 := Lib.hid ((G4.out.trans (Grew.of_below E5.out)).trans hg)
    have C5 := Lib.hid hc
    clear hc hg C4 G4 X4 Y4 O4 P5 E5 L5
    have HNR : Hid (i64R N) := Lib.hid (by rw [HN.out]; exact getD_mem4 (p := i64R) (by intro x hx; simp only [pick1, List.mem_cons, List.not_mem_nil, or_false] at hx; unfold i64R; omega) (by unfold i64R; omega) _)
    obtain ⟨o', ho'⟩ : ∃ o' : OD, o' = { o with id := N } := ⟨_, rfl⟩
    rw [← ho'] at HE0
    have HE := HE0
    have hne := HNE.out
    have y0 : w5.cell? ⟨b3, 1, none⟩ = some (.int .i64 o.id) := X5.out.cell 1
    have f0 := X5.out.frozen 1
    go_upto_region 15 with (fail)
    obtain ⟨W5, hW5⟩ : ∃ W, W = w5.setCell ⟨b3, 1, none⟩ (.int .i64 N) := ⟨_, rfl⟩
    rw [← hW5]
    have X6 : Hid (Blk W5 b3 27 (voC o' (.slice A o.ids.length cp))) := Lib.hid (by rw [hW5, ho']; exact X5.out.set_ 1 _)
    have Y6 : Hid (Blk W5 w.heap.size 27 (voC (OD.new 0 []) (.slice none 0 0))) := Lib.hid (by rw [hW5]; exact Y5.out.far (by dsimp only; omega) _)
    have BT5 : Below b3 w5 W5 := by rw [hW5]; exact (Below.refl _ _).setCell (by dsimp only; omega) _
    have C6 := Lib.hid (C5.out.belowB BT5 (by omega))
    have G6 := Lib.hid (G5.out.below_trans (BT5.mono (by omega)))
    have O6 : Hid (Obs W5 (w.heap.size + 1) 1 (.slice A o.ids.length cp) o.ids.length (o.ids.map vn)) := Lib.hid (O5.out.same BT5.size (fun q hq => BT5.block q (HOB.out q hq)))
    have HW5 : Hid o'.wf := Lib.hid (by rw [ho']; exact ⟨⟨HWF.out.1.1, HNR.out, HWF.out.1.2.2⟩, HWF.out.2⟩)
    have HD5 : Hid (o'.ids = o.ids) := Lib.hid (by rw [ho'])
    clear hW5 ho' y0 f0 BT5 HE0
    go_wp2_with (first | (refine wpl_opt (o := o') rfl (by rfl) (by rfl) (Bx.of_blk X6.out) ?_) | (refine wpl_store_optM (o := o') rfl (by rfl) (by rfl) (by rfl) Y6.out rfl ?_))
    refine bodyPost_ret (results_opt rfl (by rfl) (Bx.setCells (vs := voC o' (.slice A o.ids.length cp)) Y6.out rfl)) rfl ?_
    rw [HE.out]
    have BT : Below w.heap.size W5 (W5.setCells w.heap.size 0 (voC o' (.slice A o.ids.length cp))) := Below.setCells' (Below.refl _ _) (Nat.le_refl _) _ _
    exact ⟨.slice A o.ids.length cp, rfl, ((show Obs W5 (w.heap.size + 1) 1 (.slice A o.ids.length cp) o'.ids.length (o'.ids.map vn) from by rw [HD5.out]; exact O6.out).farS (by omega) _ _).mono (by omega), C6.out.belowB BT hgl, G6.out.below_trans BT, HW5.out, by rw [show o'.ids = o.ids from HD5.out]; exact HID.out⟩
  by_cases e4 : c = 4
  · have q0 : ((c : Int) == 0) = false := by simp; omega
    have q1 : ((c : Int) == 1) = false := by simp; omega
    have q2 : ((c : Int) == 2) = false := by simp; omega
    have q3 : ((c : Int) == 3) = false := by simp; omega
    have q4 : ((c : Int) == 4) = true := by simp; omega
    have q5 : ((c : Int) == 5) = false := by simp; omega
    have HE0 : Hid (R = ({ o with se := pick4.getD (belowX xs 3 s2) 0 }, belowN xs 3 s2)) := Lib.hid (by rw [HRX.out]; unfold anyK; rw [if_neg (by omega)]; rw [if_neg (by omega)]; rw [if_neg (by omega)]; rw [if_neg (by omega)]; rw [if_pos e4])
    clear e4
    obtain ⟨N, hN⟩ : ∃ N, N = pick4.getD (belowX xs 3 s2) 0 := ⟨_, rfl⟩
    obtain ⟨s3, hs3⟩ : ∃ s, s = belowN xs 3 s2 := ⟨_, rfl⟩
    rw [← hN, ← hs3] at HE0
    have HN := Lib.hid hN
    have HS3 := Lib.hid hs3
    clear hN hs3
    have P5 := Lib.hid (obs_lit w4 3 (#[.int .i64 (281474976710655), .int .i64 (281474976710656), .int .i64 (-1)] : Array Value) 3 w4.heap.size (Nat.le_refl _) rfl (by decide))
    have E5 := Lib.hid ((Below.refl w4.heap.size w4).alloc (Nat.le_refl _) (.cells (#[.int .i64 (281474976710655), .int .i64 (281474976710656), .int .i64 (-1)] : Array Value) 3))
    have L5 : Hid (g < w4.heap.size) := Lib.hid C4.out.lt
    go_wp2_with fail
    refine (pickInt_u v n xs s2 g _ 3 pick4 _ (C4.out.below E5.out) P5.out.rd (by omega) (by omega) (by intro b off k cap hb; simp only [Value.slice.injEq, Option.some.injEq, Addr.mk.injEq] at hb; have := L5.out; omega)).mono ?_
    rw [← HN.out, ← HS3.out]
    rintro e w5 ⟨rfl, hc, hg⟩
    have hne := HNE.out
    have X5 := Lib.hid ((X4.out.below E5.out X4.out.lt).grewS hg (by omega))
    have Y5 := Lib.hid ((Y4.out.below E5.out Y4.out.lt).grewS hg hgl)
    have O5 := Lib.hid ((O4.out.below E5.out).grew hg (fun q hq => by have := (O4.out.lt q hq).1; omega))
    have G5 := Lib.hid ((G4.out.trans (Grew.of_below E5.out)).trans hg)
    have C5 := Lib.hid hc
    clear hc hg C4 G4 X4 Y4 O4 P5 E5 L5
    have HNR : Hid (i64R N) := Lib.hid (by rw [HN.out]; exact getD_mem4 (p := i64R) (by intro x hx; simp only [pick4, List.mem_cons, List.not_mem_nil, or_false] at hx; unfold i64R; omega) (by unfold i64R; omega) _)
    obtain ⟨o', ho'⟩ : ∃ o' : OD, o' = { o with se := N } := ⟨_, rfl⟩
    rw [← ho'] at HE0
    have HE := HE0
    have hne := HNE.out
    have y0 : w5.cell? ⟨b3, 6, none⟩ = some (.int .i64 o.se) := X5.out.cell 6
    have f0 := X5.out.frozen 6
    go_upto_region 15 with (fail)
    obtain ⟨W5, hW5⟩ : ∃ W, W = w5.setCell ⟨b3, 6, none⟩ (.int .i64 N) := ⟨_, rfl⟩
    rw [← hW5]
    have X6 : Hid (Blk W5 b3 27 (voC o' (.slice A o.ids.length cp))) := Lib.hid (by rw [hW5, ho']; exact X5.out.set_ 6 _)
    have Y6 : Hid (Blk W5 w.heap.size 27 (voC (OD.new 0 []) (.slice none 0 0))) := Lib.hid (by rw [hW5]; exact Y5.out.far (by dsimp only; omega) _)
    have BT5 : Below b3 w5 W5 := by rw [hW5]; exact (Below.refl _ _).setCell (by dsimp only; omega) _
    have C6 := Lib.hid (C5.out.belowB BT5 (by omega))
    have G6 := Lib.hid (G5.out.below_trans (BT5.mono (by omega)))
    have O6 : Hid (Obs W5 (w.heap.size + 1) 1 (.slice A o.ids.length cp) o.ids.length (o.ids.map vn)) := Lib.hid (O5.out.same BT5.size (fun q hq => BT5.block q (HOB.out q hq)))
    have HW5 : Hid o'.wf := Lib.hid (by rw [ho']; exact (let h := HWF.out; ⟨⟨h.1.1, h.1.2.1, h.1.2.2.1, h.1.2.2.2.1, h.1.2.2.2.2.1, h.1.2.2.2.2.2.1, HNR.out, h.1.2.2.2.2.2.2.2⟩, h.2⟩))
    have HD5 : Hid (o'.ids = o.ids) := Lib.hid (by rw [ho'])
    clear hW5 ho' y0 f0 BT5 HE0
    go_wp2_with (first | (refine wpl_opt (o := o') rfl (by rfl) (by rfl) (Bx.of_blk X6.out) ?_) | (refine wpl_store_optM (o := o') rfl (by rfl) (by rfl) (by rfl) Y6.out rfl ?_))
    refine bodyPost_ret (results_opt rfl (by rfl) (Bx.setCells (vs := voC o' (.slice A o.ids.length cp)) Y6.out rfl)) rfl ?_
    rw [HE.out]
    have BT : Below w.heap.size W5 (W5.setCells w.heap.size 0 (voC o' (.slice A o.ids.length cp))) := Below.setCells' (Below.refl _ _) (Nat.le_refl _) _ _
    exact ⟨.slice A o.ids.length cp, rfl, ((show Obs W5 (w.heap.size + 1) 1 (.slice A o.ids.length cp) o'.ids.length (o'.ids.map vn) from by rw [HD5.out]; exact O6.out).farS (by omega) _ _).mono (by omega), C6.out.belowB BT hgl, G6.out.below_trans BT, HW5.out, by rw [show o'.ids = o.ids from HD5.out]; exact HID.out⟩
  by_cases e2 : c = 2
  · have q0 : ((c : Int) == 0) = false := by simp; omega
    have q1 : ((c : Int) == 1) = false := by simp; omega
    have q2 : ((c : Int) == 2) = true := by simp; omega
    have q3 : ((c : Int) == 3) = false := by simp; omega
    have q4 : ((c : Int) == 4) = false := by simp; omega
    have q5 : ((c : Int) == 5) = false := by simp; omega
    have HE00 : Hid (R = ({ o with ma := str (textL xs (pick2.getD (belowX xs 4 s2) 0).toNat (belowN xs 4 s2)).1 }, (textL xs (pick2.getD (belowX xs 4 s2) 0).toNat (belowN xs 4 s2)).2)) := Lib.hid (by rw [HRX.out]; unfold anyK; rw [if_neg (by omega)]; rw [if_neg (by omega)]; rw [if_pos e2])
    clear e2
    have HE0 := HE00
    obtain ⟨N, hN⟩ : ∃ N, N = pick2.getD (belowX xs 4 s2) 0 := ⟨_, rfl⟩
    obtain ⟨s3, hs3⟩ : ∃ s, s = belowN xs 4 s2 := ⟨_, rfl⟩
    rw [← hN, ← hs3] at HE0
    have HN := Lib.hid hN
    have HS3 := Lib.hid hs3
    clear hN hs3
    have P5 := Lib.hid (obs_lit w4 3 (#[.int .i64 (0), .int .i64 (7), .int .i64 (8), .int .i64 (20)] : Array Value) 4 w4.heap.size (Nat.le_refl _) rfl (by decide))
    have E5 := Lib.hid ((Below.refl w4.heap.size w4).alloc (Nat.le_refl _) (.cells (#[.int .i64 (0), .int .i64 (7), .int .i64 (8), .int .i64 (20)] : Array Value) 3))
    have L5 : Hid (g < w4.heap.size) := Lib.hid C4.out.lt
    go_wp2_with fail
    refine (pickInt_u v n xs s2 g _ 4 pick2 _ (C4.out.below E5.out) P5.out.rd (by omega) (by omega) (by intro b off k cap hb; simp only [Value.slice.injEq, Option.some.injEq, Addr.mk.injEq] at hb; have := L5.out; omega)).mono ?_
    rw [← HN.out, ← HS3.out]
    rintro e w5 ⟨rfl, hc, hg⟩
    have hne := HNE.out
    have X5 := Lib.hid ((X4.out.below E5.out X4.out.lt).grewS hg (by omega))
    have Y5 := Lib.hid ((Y4.out.below E5.out Y4.out.lt).grewS hg hgl)
    have O5 := Lib.hid ((O4.out.below E5.out).grew hg (fun q hq => by have := (O4.out.lt q hq).1; omega))
    have G5 := Lib.hid ((G4.out.trans (Grew.of_below E5.out)).trans hg)
    have C5 := Lib.hid hc
    clear hc hg C4 G4 X4 Y4 O4 P5 E5 L5
    have HNR : 0 ≤ N ∧ N ≤ 20 := by rw [HN.out]; exact getD_mem4 (p := fun N => 0 ≤ N ∧ N ≤ 20) (by intro x hx; simp only [pick2, List.mem_cons, List.not_mem_nil, or_false] at hx; omega) (by omega) _
    obtain ⟨M, rfl⟩ : ∃ M : Nat, N = (M : Int) := ⟨N.toNat, by omega⟩
    rw [Int.toNat_natCast] at HE0
    obtain ⟨TX, hTX⟩ : ∃ T, T = str (textL xs M s3).1 := ⟨_, rfl⟩
    have hTL : TX.size ≤ maxLen := by rw [hTX, str_size, textL_len]; unfold maxLen; omega
    obtain ⟨s4, hs4⟩ : ∃ s, s = (textL xs M s3).2 := ⟨_, rfl⟩
    rw [← hTX, ← hs4] at HE0
    have HTX := Lib.hid hTX
    have HS4 := Lib.hid hs4
    have HTL := Lib.hid hTL
    clear hTX hs4 hTL
    go_wp2_with fail
    refine (text_u v n xs s3 g M _ C5.out (by omega)).mono ?_
    rw [← HTX.out, ← HS4.out]
    rintro e w6 ⟨rfl, hc, hg⟩
    have hne := HNE.out
    have X7 := Lib.hid (X5.out.grewS hg (by omega))
    have Y7 := Lib.hid (Y5.out.grewS hg hgl)
    have O7 := Lib.hid (O5.out.grew hg (fun q hq => by have := (O5.out.lt q hq).1; omega))
    have G7 := Lib.hid (G5.out.trans hg)
    have C7 := Lib.hid hc
    clear hc hg C5 G5 X5 Y5 O5
    obtain ⟨o', ho'⟩ : ∃ o' : OD, o' = { o with ma := TX } := ⟨_, rfl⟩
    rw [← ho'] at HE0
    have HE := HE0
    have hne := HNE.out
    have y0 : w6.cell? ⟨b3, 12, none⟩ = some (.string o.ma) := X7.out.cell 12
    have f0 := X7.out.frozen 12
    go_upto_region 15 with (fail)
    obtain ⟨W5, hW5⟩ : ∃ W, W = w6.setCell ⟨b3, 12, none⟩ (.string TX) := ⟨_, rfl⟩
    rw [← hW5]
    have X6 : Hid (Blk W5 b3 27 (voC o' (.slice A o.ids.length cp))) := Lib.hid (by rw [hW5, ho']; exact X7.out.set_ 12 _)
    have Y6 : Hid (Blk W5 w.heap.size 27 (voC (OD.new 0 []) (.slice none 0 0))) := Lib.hid (by rw [hW5]; exact Y7.out.far (by dsimp only; omega) _)
    have BT5 : Below b3 w6 W5 := by rw [hW5]; exact (Below.refl _ _).setCell (by dsimp only; omega) _
    have C6 := Lib.hid (C7.out.belowB BT5 (by omega))
    have G6 := Lib.hid (G7.out.below_trans (BT5.mono (by omega)))
    have O6 : Hid (Obs W5 (w.heap.size + 1) 1 (.slice A o.ids.length cp) o.ids.length (o.ids.map vn)) := Lib.hid (O7.out.same BT5.size (fun q hq => BT5.block q (HOB.out q hq)))
    have HW5 : Hid o'.wf := Lib.hid (by rw [ho']; exact ⟨HWF.out.1, ⟨HWF.out.2.1.1, HTL.out⟩, HWF.out.2.2⟩)
    have HD5 : Hid (o'.ids = o.ids) := Lib.hid (by rw [ho'])
    clear hW5 ho' y0 f0 BT5 HE0
    go_wp2_with (first | (refine wpl_opt (o := o') rfl (by rfl) (by rfl) (Bx.of_blk X6.out) ?_) | (refine wpl_store_optM (o := o') rfl (by rfl) (by rfl) (by rfl) Y6.out rfl ?_))
    refine bodyPost_ret (results_opt rfl (by rfl) (Bx.setCells (vs := voC o' (.slice A o.ids.length cp)) Y6.out rfl)) rfl ?_
    rw [HE.out]
    have BT : Below w.heap.size W5 (W5.setCells w.heap.size 0 (voC o' (.slice A o.ids.length cp))) := Below.setCells' (Below.refl _ _) (Nat.le_refl _) _ _
    exact ⟨.slice A o.ids.length cp, rfl, ((show Obs W5 (w.heap.size + 1) 1 (.slice A o.ids.length cp) o'.ids.length (o'.ids.map vn) from by rw [HD5.out]; exact O6.out).farS (by omega) _ _).mono (by omega), C6.out.belowB BT hgl, G6.out.below_trans BT, HW5.out, by rw [show o'.ids = o.ids from HD5.out]; exact HID.out⟩
  by_cases e3 : c = 3
  · have q0 : ((c : Int) == 0) = false := by simp; omega
    have q1 : ((c : Int) == 1) = false := by simp; omega
    have q2 : ((c : Int) == 2) = false := by simp; omega
    have q3 : ((c : Int) == 3) = true := by simp; omega
    have q4 : ((c : Int) == 4) = false := by simp; omega
    have q5 : ((c : Int) == 5) = false := by simp; omega
    have HE0 : Hid (R = ({ o with ids := [(belowX xs 3 s2 : Nat), (belowX xs 3 (belowN xs 3 s2) : Nat)] }, belowN xs 3 (belowN xs 3 s2))) := Lib.hid (by rw [HRX.out]; unfold anyK; rw [if_neg (by omega)]; rw [if_neg (by omega)]; rw [if_neg (by omega)]; rw [if_pos e3])
    clear e3
    obtain ⟨u1, hN⟩ : ∃ N, N = belowX xs 3 s2 := ⟨_, rfl⟩
    have hu1 : u1 < 3 := by rw [hN]; exact belowX_lt xs s2 (by omega)
    obtain ⟨s3, hs3⟩ : ∃ s, s = belowN xs 3 s2 := ⟨_, rfl⟩
    rw [← hs3, ← hN] at HE0
    have Hu1 := Lib.hid hN
    have Hs3 := Lib.hid hs3
    clear hN hs3
    go_wp2_with fail
    refine (below_u v n xs s2 g 3 _ C4.out (by omega) (by omega)).mono ?_
    rw [← Hu1.out, ← Hs3.out]
    rintro e w5 ⟨rfl, hc, hg⟩
    have hne := HNE.out
    have X5 := Lib.hid (X4.out.grewS hg (by omega))
    have Y5 := Lib.hid (Y4.out.grewS hg hgl)
    have S5 : Hid (b3 + 1 ≤ w5.heap.size) := Lib.hid X5.out.lt
    have G5 := Lib.hid (G4.out.trans hg)
    have C5 := Lib.hid hc
    clear hc hg C4 G4 X4 Y4
    obtain ⟨u2, hN⟩ : ∃ N, N = belowX xs 3 s3 := ⟨_, rfl⟩
    have hu2 : u2 < 3 := by rw [hN]; exact belowX_lt xs s3 (by omega)
    obtain ⟨s4, hs3⟩ : ∃ s, s = belowN xs 3 s3 := ⟨_, rfl⟩
    rw [← hs3, ← hN] at HE0
    have Hu2 := Lib.hid hN
    have Hs4 := Lib.hid hs3
    clear hN hs3
    go_wp2_with fail
    refine (below_u v n xs s3 g 3 _ C5.out (by omega) (by omega)).mono ?_
    rw [← Hu2.out, ← Hs4.out]
    rintro e w6 ⟨rfl, hc, hg⟩
    have hne := HNE.out
    have X6 := Lib.hid (X5.out.grewS hg (by omega))
    have Y6 := Lib.hid (Y5.out.grewS hg hgl)
    have S6 : Hid (b3 + 1 ≤ w6.heap.size) := Lib.hid X6.out.lt
    have G6 := Lib.hid (G5.out.trans hg)
    have C6 := Lib.hid hc
    clear hc hg C5 G5 X5 Y5
    obtain ⟨o', ho'⟩ : ∃ o' : OD, o' = { o with ids := [(u1 : Int), (u2 : Int)] } := ⟨_, rfl⟩
    rw [← ho'] at HE0
    have HE := HE0
    have HIDS : Hid (o'.ids = [(u1 : Int), (u2 : Int)]) := Lib.hid (by rw [ho'])
    have HWW : Hid o'.wf := Lib.hid (by rw [ho']; refine ⟨HWF.out.1, HWF.out.2.1, fun x hx => ?_⟩; simp only [List.mem_cons, List.not_mem_nil, or_false] at hx; unfold i64R; omega)
    have hne := HNE.out
    have E6 := Lib.hid ((Below.refl w6.heap.size w6).alloc (Nat.le_refl _) (.cells (#[.int .i64 (u1 : Int), .int .i64 (u2 : Int)] : Array Value) 3))
    have y0 := (X6.out.below E6.out X6.out.lt).cell 13
    have f0 := (X6.out.below E6.out X6.out.lt).frozen 13
    have y00 : (w6.alloc (.cells (#[.int .i64 (u1 : Int), .int .i64 (u2 : Int)] : Array Value) 3)).cell? ⟨b3, 13, none⟩ = some (.slice A o.ids.length cp) := y0
    clear y0
    go_upto_region 15 with (fail)
    obtain ⟨b7, hb7⟩ : ∃ b, b = w6.heap.size := ⟨_, rfl⟩
    obtain ⟨V7, hV7⟩ : ∃ W, W = w6.alloc (.cells (#[.int .i64 (u1 : Int), .int .i64 (u2 : Int)] : Array Value) 3) := ⟨_, rfl⟩
    obtain ⟨W7, hW7⟩ : ∃ W, W = V7.setCell ⟨b3, 13, none⟩ (.slice (some ⟨b7, 0, none⟩) 2 2) := ⟨_, rfl⟩
    have PO : Hid (Obs V7 b7 1 (.slice (some ⟨b7, 0, none⟩) 2 2) 2 ([(u1 : Int), (u2 : Int)].map vn)) := Lib.hid (by rw [hV7, hb7]; exact obs_lit w6 3 (#[.int .i64 (u1 : Int), .int .i64 (u2 : Int)] : Array Value) 2 w6.heap.size (Nat.le_refl _) rfl (by decide))
    have E6' : Below w6.heap.size w6 V7 := by rw [hV7]; exact E6.out
    rw [← hV7, ← hb7]
    rw [← hW7]
    have S7 : b3 + 1 ≤ b7 := by rw [hb7]; exact S6.out
    have XV := Lib.hid (X6.out.below E6' X6.out.lt)
    have YV := Lib.hid (Y6.out.below E6' Y6.out.lt)
    have X7 : Hid (Blk W7 b3 27 (voC o' (.slice (some ⟨b7, 0, none⟩) 2 2))) := Lib.hid (by rw [hW7, ho']; exact XV.out.set_ 13 _)
    have Y7 : Hid (Blk W7 w.heap.size 27 (voC (OD.new 0 []) (.slice none 0 0))) := Lib.hid (by rw [hW7]; exact YV.out.far (by dsimp only; omega) _)
    have BT5 : Below b3 V7 W7 := by rw [hW7]; exact (Below.refl _ _).setCell (by dsimp only; omega) _
    have C7 := Lib.hid ((C6.out.below E6').belowB BT5 (by omega))
    have G7 := Lib.hid ((G6.out.trans (Grew.of_below E6')).below_trans (BT5.mono (by omega)))
    have O7 : Hid (Obs W7 b7 1 (.slice (some ⟨b7, 0, none⟩) 2 2) 2 ([(u1 : Int), (u2 : Int)].map vn)) := Lib.hid (by rw [hW7]; exact PO.out.far (by dsimp only; omega) _)
    clear hW7 hV7 hb7 ho' y00 f0 BT5 HE0 E6 E6' PO XV YV
    go_wp2_with (first | (refine wpl_opt (o := o') rfl (by rfl) (by rfl) (Bx.of_blk X7.out) ?_) | (refine wpl_store_optM (o := o') rfl (by rfl) (by rfl) (by rfl) Y7.out rfl ?_))
    refine bodyPost_ret (results_opt rfl (by rfl) (Bx.setCells (vs := voC o' (.slice (some ⟨b7, 0, none⟩) 2 2)) Y7.out rfl)) rfl ?_
    rw [HE.out]
    have BT : Below w.heap.size W7 (W7.setCells w.heap.size 0 (voC o' (.slice (some ⟨b7, 0, none⟩) 2 2))) := Below.setCells' (Below.refl _ _) (Nat.le_refl _) _ _
    exact ⟨.slice (some ⟨b7, 0, none⟩) 2 2, rfl, ((show Obs W7 b7 1 (.slice (some ⟨b7, 0, none⟩) 2 2) o'.ids.length (o'.ids.map vn) from by rw [HIDS.out]; exact O7.out).farS (by omega) _ _).mono (by omega), C7.out.belowB BT hgl, G7.out.below_trans BT, HWW.out, by rw [show o'.ids = _ from HIDS.out]; exact (by decide : 2 ≤ 8)⟩
  exact absurd hc14 (by omega)
end Go.Proofs.Ytkgbkgonlopciaa

namespace Go.Proofs.Ytkgbkgonlopciaa
open Go.RowKit
set_option linter.unusedVariables false
set_option linter.unusedSimpArgs false
/-- this option has been drawn -/
def GivesA (o : OD) (w : World) (e : Ending) (w' : World) : Prop :=
  ∃ iv, e = .returned (vo o iv) ∧ Obs w' w.heap.size 1 iv o.ids.length (o.ids.map vn) ∧ Below w.heap.size w w' ∧ o.wf ∧ o.ids.length ≤ 8
set_option maxRecDepth 100000 in
set_option maxHeartbeats 1600000 in
theorem drawOptText_u (v : Value) (n : Nat) (xs : List Int) (w : World) (hv : Rd w 1 v n (xs.map (Value.int .u8))) (hx : ∀ x ∈ xs, 0 ≤ x ∧ x ≤ 255) (hn : n ≤ 1048576) :
    Calls Try.prog 43 #[v] w (GivesA (anyX xs (newS xs n)).1 w) := by
  obtain ⟨R, hR⟩ : ∃ R, R = anyX xs (newS xs n) := ⟨_, rfl⟩
  rw [← hR]
  obtain ⟨A, cap, rfl, hm⟩ := hv.shape
  have HR := Lib.hid hR
  have HV := Lib.hid hv
  have HX := Lib.hid hx
  clear hR hv hx hm
  go_enter Try.func43, Try.ntmps43
  go_upto_region 1 with (fail)
  obtain ⟨W, hW⟩ : ∃ W, W = w.alloc (.cells (voC (OD.new 0 []) (.slice none 0 0)).toArray 27) := ⟨_, rfl⟩
  change Code.wp _ _ _ _ (w.alloc (.cells (voC (OD.new 0 []) (.slice none 0 0)).toArray 27))
  rw [← hW]
  have E0 := (Below.refl w.heap.size w).alloc (Nat.le_refl _) (.cells (voC (OD.new 0 []) (.slice none 0 0)).toArray 27)
  have X0 := Lib.hid (Blk.new w 27 (voC (OD.new 0 []) (.slice none 0 0)).toArray)
  rw [← hW] at E0 X0
  have L0 := Lib.hid E0
  clear hW E0
  go_wp2_with fail
  refine (new_u _ n xs _ (HV.out.below L0.out) HX.out hn).mono ?_
  rintro e w1 ⟨rfl, hc, hb⟩
  obtain ⟨g, hg⟩ : ∃ g, g = W.heap.size := ⟨_, rfl⟩
  rw [← hg] at hc ⊢
  have C1 := Lib.hid hc
  have X1 := Lib.hid (X0.out.below hb X0.out.lt)
  have L1 := Lib.hid (L0.out.trans (hb.mono L0.out.size))
  have S1 : Hid (w.heap.size < g) := Lib.hid (by rw [hg]; exact X0.out.lt)
  have S2 : Hid (W.heap.size ≤ w1.heap.size) := Lib.hid hb.size
  clear hc hb hg L0 X0
  go_wp2_with fail
  refine (any_u _ n xs (newS xs n) g _ C1.out).mono ?_
  rw [← HR.out]
  rintro e w2 ⟨iv, rfl, ho, hc, hgr, hwf, hid⟩
  clear HR
  obtain ⟨o, s⟩ := R
  dsimp only at ho hc hwf hid ⊢
  obtain ⟨A2, cp, rfl⟩ := ho.shape
  have hlt := S1.out
  have O2 := Lib.hid (ho.mono L1.out.size)
  have O3 : Hid (∀ q, (Value.slice A2 o.ids.length cp).ownBlock = some q → w.heap.size < q) := Lib.hid (fun q hq => by have := (ho.lt q hq).1; have := X1.out.lt; omega)
  have X2 := Lib.hid (X1.out.grew hgr (by omega))
  have L2 := Lib.hid (L1.out.trans (hgr.below L1.out.size (Nat.le_of_lt hlt)))
  have HWF := Lib.hid hwf
  have HID := Lib.hid hid
  have OX := Lib.hid ho
  have SX : Hid (w.heap.size + 1 ≤ w1.heap.size) := Lib.hid X1.out.lt
  clear ho hc hgr hwf hid hlt L1 X1 C1
  go_wp2_with (refine wpl_store_optM (o := o) rfl (by rfl) (by rfl) (by rfl) X2.out rfl ?_)
  refine bodyPost_ret (results_opt rfl (by rfl) (Bx.setCells (vs := voC o (.slice A2 o.ids.length cp)) X2.out rfl)) rfl ?_
  exact ⟨.slice A2 o.ids.length cp, rfl, ((OX.out.mono SX.out).farS (by omega) _ _).mono (by omega), Below.setCells' L2.out (Nat.le_refl _) _ _, HWF.out, HID.out⟩
end Go.Proofs.Ytkgbkgonlopciaa
