/- The walks: the cursor of the draws, told exactly. -/
import Derived.Test.YtkgbkgonlopciaaD1
namespace Go.Proofs.Ytkgbkgonlopciaa
open Go.RowKit
set_option linter.unusedVariables false
set_option linter.unusedSimpArgs false
/-- block g is a cursor over these bytes, at this place with this number -/
def CurS (v : Value) (n : Nat) (xs : List Int) (w : World) (g : Nat) (st : Nat × Int) : Prop := Blk w g 102 [v, .int .i64 (st.1 : Int), .int .i64 st.2] ∧ Rd w 1 v n (xs.map (Value.int .u8)) ∧ st.1 ≤ n ∧
  (0 < n → ∀ b off m cap, v = .slice (some ⟨b, off, none⟩) m cap → b < g) ∧ ∀ x ∈ xs, 0 ≤ x ∧ x ≤ 255
theorem CurS.lt {v : Value} {n : Nat} {xs : List Int} {w : World} {g : Nat} {st : Nat × Int} (h : CurS v n xs w g st) : g < w.heap.size := h.1.lt
theorem CurS.below {v : Value} {n : Nat} {xs : List Int} {w w' : World} {g : Nat} {st : Nat × Int} (h : CurS v n xs w g st) (hb : Below w.heap.size w w') : CurS v n xs w' g st :=
  ⟨h.1.below hb h.1.lt, h.2.1.below hb, h.2.2⟩
theorem CurS.belowB {v : Value} {n : Nat} {xs : List Int} {w w' : World} {g B : Nat} {st : Nat × Int} (h : CurS v n xs w g st) (hb : Below B w w') (hg : g < B) : CurS v n xs w' g st := by
  obtain ⟨h1, h2, h3, h4, h5⟩ := h
  refine ⟨h1.below hb hg, ⟨h2.1, ?_⟩, h3, h4, h5⟩
  rcases h2.2 with h2' | ⟨b, off, cap, rfl, hb', hnc, hm, hx⟩
  · exact .inl h2'
  · by_cases h0 : n = 0
    · subst h0; exact .inl ⟨_, _, rfl, rfl⟩
    have hbg := h4 (by omega) _ _ _ _ rfl
    exact .inr ⟨b, off, cap, rfl, Nat.lt_of_lt_of_le hb' hb.size, hnc, hm, fun j u hu => (hb.cell (p := ⟨b, off + j, none⟩) (by dsimp only; omega)).trans (hx j u hu)⟩
def stepH (h : Int) : Int := wrap64 (wrap64 (h * 6364136223846793005) + 1442695040888963407)
noncomputable def byte0 (h : Int) : Nat := byteOf (bits BinOp.xor IntKind.i64 (h / 8589934592) (h / 35184372088832))
noncomputable def byteX (xs : List Int) (st : Nat × Int) : Nat :=
  if st.1 < xs.length then byteOf (IntKind.i64.wrap ((byte0 (stepH st.2) : Int) + IntKind.i64.wrap (xs.getD st.1 0))) else byte0 (stepH st.2)
def byteN (xs : List Int) (st : Nat × Int) : Nat × Int := (if st.1 < xs.length then st.1 + 1 else st.1, stepH st.2)
theorem byteX_lt (xs : List Int) (st : Nat × Int) : byteX xs st < 256 := by
  unfold byteX byte0
  split <;> exact byteOf_lt _
/-- the call hands back this number and leaves the cursor in this state -/
def GivesXn (v : Value) (n : Nat) (xs : List Int) (x : Nat) (st : Nat × Int) (g : Nat) (w : World) (e : Ending) (w' : World) : Prop := e = .returned (.int .i64 (x : Int)) ∧ CurS v n xs w' g st ∧ Grew w w' g
set_option maxRecDepth 100000 in
theorem byte_u (v : Value) (n : Nat) (xs : List Int) (st : Nat × Int) (g : Nat) (w : World) (hc : CurS v n xs w g st) : Calls Try.prog 95 #[.pointer (some ⟨g, 0, none⟩)] w (GivesXn v n xs (byteX xs st) (byteN xs st) g w) := by
  obtain ⟨X, hX⟩ : ∃ X, X = byteX xs st := ⟨_, rfl⟩
  obtain ⟨S, hS⟩ : ∃ S, S = byteN xs st := ⟨_, rfl⟩
  rw [← hX, ← hS]
  have HX := Lib.hid hX
  have HS := Lib.hid hS
  clear hX hS
  obtain ⟨i, h⟩ := st
  obtain ⟨h1, h2, h3, h4, h5⟩ := hc
  dsimp only at h1 h3
  have hgl := h1.lt
  have c0 : w.cell? ⟨g, 0, none⟩ = some v := h1.cell 0
  have c1 : w.cell? ⟨g, 1, none⟩ = some (.int .i64 (i : Int)) := h1.cell 1
  have c2 : w.cell? ⟨g, 2, none⟩ = some (.int .i64 h) := h1.cell 2
  have f1 := h1.frozen 1
  have f2 := h1.frozen 2
  obtain ⟨A, cap, rfl, hm⟩ := h2.shape
  unfold maxLen at hm
  have H1 := Lib.hid h1
  have H2 := Lib.hid h2
  have H4 := Lib.hid h4
  have H5 := Lib.hid h5
  clear h1 h2 h4 h5
  go_enter Try.func95, Try.ntmps95
  go_wp2
  obtain ⟨H, hH⟩ : ∃ H, H = wrap64 (wrap64 (h * 6364136223846793005) + 1442695040888963407) := ⟨_, rfl⟩
  rw [← hH]
  have HH : Hid (H = stepH h) := Lib.hid hH
  have b1 := H1.out.set_ 2 (.int .i64 H)
  have g1 := (Grew.refl w g).set_ 2 (.int .i64 H)
  have r1 := H2.out.grew g1 (fun h0 b o m c e => Nat.ne_of_lt (H4.out h0 b o m c e))
  generalize w.setCell ⟨g, 2, none⟩ (.int .i64 H) = W1 at b1 g1 r1 ⊢
  clear hH c0 c1 c2 f1 f2
  have B1 := Lib.hid b1
  have G1 := Lib.hid g1
  have R1 := Lib.hid r1
  have d0 : W1.cell? ⟨g, 0, none⟩ = some (.slice A n cap) := b1.cell 0
  have d1 : W1.cell? ⟨g, 1, none⟩ = some (.int .i64 (i : Int)) := b1.cell 1
  have d2 : W1.cell? ⟨g, 2, none⟩ = some (.int .i64 H) := b1.cell 2
  clear b1 g1 r1
  refine wp_region_still_lit (by kernel_rfl) (by kernel_rfl) ?_
  change wpStill _ _ (World.drew W1) (fun a' => Exit.then _ _ Exit.normal a' (World.drew W1)) _ _
  repeat still_step
  refine wpStill_nil ?_
  rw [byteOf_eq]
  generalize hx : byteOf _ = x
  have HX0 : Hid (x = byte0 (stepH h)) := Lib.hid (by rw [← HH.out]; exact hx.symm)
  have hx256 : x < 256 := by rw [← hx]; exact byteOf_lt _
  clear hx
  have hxs : Hid (xs.length = n) := Lib.hid (by have := R1.out.len; simpa using this)
  by_cases hi : i < n
  · obtain ⟨b, off, cap', he, hbl, hmm, hcc⟩ := R1.out.full (by omega)
    simp only [Value.slice.injEq] at he
    obtain ⟨rfl, _, rfl⟩ := he
    have hxs' := hxs.out
    have e4 : W1.cell? ⟨b, off + i, none⟩ = some (.int .u8 (xs[i]'(by omega))) := hcc i _ (by simp [hxs', hi])
    have hy := H5.out (xs[i]'(by omega)) (List.getElem_mem _)
    obtain ⟨y, hye⟩ : ∃ y, y = xs[i]'(by omega) := ⟨_, rfl⟩
    rw [← hye] at e4 hy
    have HYG : Hid (y = xs.getD i 0) := Lib.hid (by rw [hye, List.getD_eq_getElem?_getD, List.getElem?_eq_getElem (by omega)]; rfl)
    obtain ⟨hy0, hy1⟩ := hy
    have fr1 := B1.out.frozen 1
    have hszB := B1.out.lt
    have B2 := Lib.hid (B1.out.set_ 1 (.int .i64 ((i : Int) + 1)))
    have G2 := Lib.hid (G1.out.set_ 1 (.int .i64 ((i : Int) + 1)))
    have R2 := Lib.hid (R1.out.grew ((Grew.refl W1 g).set_ 1 (.int .i64 ((i : Int) + 1))) (fun h0 b o m c e => Nat.ne_of_lt (H4.out h0 b o m c e)))
    clear hye hcc hxs'
    go_wp2
    refine wp_region_still_lit (by kernel_rfl) (by kernel_rfl) ?_
    change wpStill _ _ (World.drew (World.drew W1)) (fun a' => Exit.then _ _ Exit.normal a' (World.drew (World.drew W1))) _ _
    repeat still_step
    refine wpStill_nil ?_
    go_wp2
    refine wp_region_still_lit (by kernel_rfl) (by kernel_rfl) ?_
    change wpStill _ _ (World.drew (World.drew (World.drew W1))) (fun a' => Exit.then _ _ Exit.normal a' (World.drew (World.drew (World.drew W1)))) _ _
    repeat still_step
    refine wpStill_nil ?_
    rw [byteOf_eq]
    generalize hz : byteOf _ = z
    have HZ : Hid (X = z) := Lib.hid (by
      rw [HX.out]
      unfold byteX
      rw [if_pos (by rw [hxs.out]; exact hi)]
      dsimp only
      rw [← HX0.out, ← HYG.out]
      exact hz)
    have HSS : Hid (S = (i + 1, H)) := Lib.hid (by
      rw [HS.out]
      unfold byteN
      rw [if_pos (by rw [hxs.out]; exact hi), HH.out])
    have hz256 : z < 256 := by rw [← hz]; exact byteOf_lt _
    clear hz
    go_wp2
    go_ret
    rw [HZ.out, HSS.out]
    exact ⟨rfl, ⟨B2.out.drew.drew.drew, R2.out, by dsimp only; omega, H4.out, H5.out⟩, G2.out.drew.drew.drew⟩
  · have hni : ¬ (i : Int) < (n : Int) := by omega
    have HZ : Hid (X = x) := Lib.hid (by
      rw [HX.out]
      unfold byteX
      rw [if_neg (by rw [hxs.out]; exact hi), HX0.out])
    have HSS : Hid (S = (i, H)) := Lib.hid (by
      rw [HS.out]
      unfold byteN
      rw [if_neg (by rw [hxs.out]; exact hi), HH.out])
    go_wp2
    refine wp_region_still_lit (by kernel_rfl) (by kernel_rfl) ?_
    change wpStill _ _ (World.drew (World.drew W1)) (fun a' => Exit.then _ _ Exit.normal a' (World.drew (World.drew W1))) _ _
    repeat still_step
    refine wpStill_nil ?_
    go_wp2
    go_ret
    rw [HZ.out, HSS.out]
    exact ⟨rfl, ⟨B1.out.drew.drew, R1.out, h3, H4.out, H5.out⟩, G1.out.drew.drew⟩
/-- the number of a new cursor, over the first k bytes -/
noncomputable def newK (xs : List Int) (n : Nat) : Nat → Nat
  | 0 => 94701 + n
  | k + 1 => maskOf ((newK xs n k : Int) * 131 + xs.getD k 0 + 7)
noncomputable def newS (xs : List Int) (n : Nat) : Nat × Int := (0, (newK xs n (min n 4000) : Int))
set_option maxRecDepth 100000 in
theorem new_u (v : Value) (n : Nat) (xs : List Int) (w : World) (hv : Rd w 1 v n (xs.map (Value.int .u8))) (hx : ∀ x ∈ xs, 0 ≤ x ∧ x ≤ 255) (hn : n ≤ 1048576) :
    Calls Try.prog 59 #[v] w fun e w' => e = .returned (.pointer (some ⟨w.heap.size, 0, none⟩)) ∧ CurS v n xs w' w.heap.size (newS xs n) ∧ Below w.heap.size w w' := by
  obtain ⟨A, cap, rfl, hm⟩ := hv.shape
  have HV := Lib.hid hv
  have HX := Lib.hid hx
  have hxs : xs.length = n := by have := hv.len; simpa using this
  have HL := Lib.hid hxs
  clear hv hx hxs hm
  go_enter Try.func59, Try.ntmps59
  go_wp2
  go_loop [3, 4] (fun h i => ∃ (k H : Nat), k ≤ n ∧ k ≤ 4000 ∧ i = .int .i64 (k : Int) ∧ h = .int .i64 (H : Int) ∧ H ≤ 2147483648 ∧ Hid (H = newK xs n k)) (fun _ i => n - (intOf i).toNat)
  case atStart => exact ⟨0, 94701 + n, Nat.zero_le _, by omega, rfl, by simp, by omega, Lib.hid rfl⟩
  case round =>
    obtain ⟨k, H, hk, hk4, rfl, rfl, hH, HK⟩ := hrel
    by_cases hlt : k < n
    · by_cases h4 : k < 4000
      · obtain ⟨b, off, cap', he, hbl, hmm, hcc⟩ := HV.out.full (by omega)
        simp only [Value.slice.injEq] at he
        obtain ⟨rfl, _, rfl⟩ := he
        have hkx : k < xs.length := by have := HL.out; omega
        have e4 : w.cell? ⟨b, off + k, none⟩ = some (.int .u8 (xs[k]'hkx)) := hcc k _ (by simp [hkx])
        have hy := HX.out (xs[k]'hkx) (List.getElem_mem _)
        obtain ⟨y, hye⟩ : ∃ y, y = xs[k]'hkx := ⟨_, rfl⟩
        rw [← hye] at e4 hy
        have HYG : Hid (y = xs.getD k 0) := Lib.hid (by rw [hye, List.getD_eq_getElem?_getD, List.getElem?_eq_getElem hkx]; rfl)
        obtain ⟨hy0, hy1⟩ := hy
        have HK2 : Hid (maskOf ((H : Int) * 131 + y + 7) = newK xs n (k + 1)) := Lib.hid (by
          show _ = maskOf ((newK xs n k : Int) * 131 + xs.getD k 0 + 7)
          rw [← HK.out, ← HYG.out])
        clear hye hcc hkx
        go_wp2
        go_round
        case rel => exact ⟨k + 1, maskOf ((H : Int) * 131 + y + 7), by omega, by omega, by go_num, by rw [maskOf_eq], by have := maskOf_lt ((H : Int) * 131 + y + 7); omega, HK2⟩
        case measure => simp [intOf]; omega
      · have HN : Hid (newS xs n = (0, (H : Int))) := Lib.hid (by unfold newS; rw [show min n 4000 = k by omega, HK.out])
        go_wp2
        go_ret
        rw [HN.out]
        exact ⟨rfl, ⟨Blk.new w 102 #[.slice A n cap, .int .i64 0, .int .i64 (H : Int)], HV.out.below ((Below.refl _ _).alloc (Nat.le_refl _) _), Nat.zero_le _, HV.out.ne, HX.out⟩, (Below.refl _ _).alloc (Nat.le_refl _) _⟩
    · have HN : Hid (newS xs n = (0, (H : Int))) := Lib.hid (by unfold newS; rw [show min n 4000 = k by omega, HK.out])
      go_wp2
      go_ret
      rw [HN.out]
      exact ⟨rfl, ⟨Blk.new w 102 #[.slice A n cap, .int .i64 0, .int .i64 (H : Int)], HV.out.below ((Below.refl _ _).alloc (Nat.le_refl _) _), Nat.zero_le _, HV.out.ne, HX.out⟩, (Below.refl _ _).alloc (Nat.le_refl _) _⟩
noncomputable def belowX (xs : List Int) (N : Nat) (st : Nat × Int) : Nat :=
  if N ≤ 256 then byteX xs st % N else (byteX xs st * 16777216 + byteX xs (byteN xs st) * 65536 + byteX xs (byteN xs (byteN xs st)) * 256 + byteX xs (byteN xs (byteN xs (byteN xs st)))) % N
def belowN (xs : List Int) (N : Nat) (st : Nat × Int) : Nat × Int := if N ≤ 256 then byteN xs st else byteN xs (byteN xs (byteN xs (byteN xs st)))
theorem belowX_lt (xs : List Int) {N : Nat} (st : Nat × Int) (h : 1 ≤ N) : belowX xs N st < N := by
  unfold belowX
  split <;> exact Nat.mod_lt _ (by omega)
set_option maxRecDepth 100000 in
theorem below_u (v : Value) (n : Nat) (xs : List Int) (st : Nat × Int) (g N : Nat) (w : World) (hc : CurS v n xs w g st) (h1 : 1 ≤ N) (hN : N ≤ 1099511627776) : Calls Try.prog 61 #[.pointer (some ⟨g, 0, none⟩), .int .i64 (N : Int)] w (GivesXn v n xs (belowX xs N st) (belowN xs N st) g w) := by
  have HC := Lib.hid hc
  clear hc
  have hp : (0 : Int) < N := by omega
  by_cases h : N ≤ 256
  · have HX : Hid (belowX xs N st = byteX xs st % N) := Lib.hid (by unfold belowX; rw [if_pos h])
    have HS : Hid (belowN xs N st = byteN xs st) := Lib.hid (by unfold belowN; rw [if_pos h])
    rw [HX.out, HS.out]
    obtain ⟨x, hx⟩ : ∃ x, x = byteX xs st := ⟨_, rfl⟩
    have hx256 : x < 256 := by rw [hx]; exact byteX_lt _ _
    rw [← hx]
    have HXX := Lib.hid hx
    clear hx
    go_enter Try.func61, Try.ntmps61
    go_wp2_with fail
    refine (byte_u v n xs st g _ HC.out).mono ?_
    rw [← HXX.out]
    rintro e w1 ⟨rfl, hc1, hg1⟩
    have C1 := Lib.hid hc1
    have G1 := Lib.hid hg1
    clear hc1 hg1
    go_wp2
    go_ret
    exact ⟨ret_int (by simp), C1.out, G1.out⟩
  · have HX : Hid (belowX xs N st = (byteX xs st * 16777216 + byteX xs (byteN xs st) * 65536 + byteX xs (byteN xs (byteN xs st)) * 256 + byteX xs (byteN xs (byteN xs (byteN xs st)))) % N) := Lib.hid (by unfold belowX; rw [if_neg h])
    have HS : Hid (belowN xs N st = byteN xs (byteN xs (byteN xs (byteN xs st)))) := Lib.hid (by unfold belowN; rw [if_neg h])
    rw [HX.out, HS.out]
    obtain ⟨x, hx⟩ : ∃ x, x = byteX xs st := ⟨_, rfl⟩
    obtain ⟨s1, hs1⟩ : ∃ s, s = byteN xs st := ⟨_, rfl⟩
    rw [← hx, ← hs1]
    obtain ⟨y, hy⟩ : ∃ x, x = byteX xs s1 := ⟨_, rfl⟩
    obtain ⟨s2, hs2⟩ : ∃ s, s = byteN xs s1 := ⟨_, rfl⟩
    rw [← hy, ← hs2]
    obtain ⟨z, hz⟩ : ∃ x, x = byteX xs s2 := ⟨_, rfl⟩
    obtain ⟨s3, hs3⟩ : ∃ s, s = byteN xs s2 := ⟨_, rfl⟩
    rw [← hz, ← hs3]
    obtain ⟨u, hu⟩ : ∃ x, x = byteX xs s3 := ⟨_, rfl⟩
    obtain ⟨s4, hs4⟩ : ∃ s, s = byteN xs s3 := ⟨_, rfl⟩
    rw [← hu, ← hs4]
    have hx256 : x < 256 := by rw [hx]; exact byteX_lt _ _
    have hy256 : y < 256 := by rw [hy]; exact byteX_lt _ _
    have hz256 : z < 256 := by rw [hz]; exact byteX_lt _ _
    have hu256 : u < 256 := by rw [hu]; exact byteX_lt _ _
    have c1 := Lib.hid hx
    have c2 := Lib.hid hy
    have c3 := Lib.hid hz
    have c4 := Lib.hid hu
    have t1 := Lib.hid hs1
    have t2 := Lib.hid hs2
    have t3 := Lib.hid hs3
    have t4 := Lib.hid hs4
    clear hx hy hz hu hs1 hs2 hs3 hs4
    go_enter Try.func61, Try.ntmps61
    go_wp2_with fail
    refine (byte_u v n xs st g _ HC.out).mono ?_
    rw [← c1.out, ← t1.out]
    rintro e w1 ⟨rfl, hc1, hg1⟩
    have C1 := Lib.hid hc1
    have G1 := Lib.hid hg1
    clear hc1 hg1
    go_wp2_with fail
    refine (byte_u v n xs s1 g _ C1.out).mono ?_
    rw [← c2.out, ← t2.out]
    rintro e w2 ⟨rfl, hc2, hg2⟩
    have C2 := Lib.hid hc2
    have G2 := Lib.hid (G1.out.trans hg2)
    clear hc2 hg2
    go_wp2_with fail
    refine (byte_u v n xs s2 g _ C2.out).mono ?_
    rw [← c3.out, ← t3.out]
    rintro e w3 ⟨rfl, hc3, hg3⟩
    have C3 := Lib.hid hc3
    have G3 := Lib.hid (G2.out.trans hg3)
    clear hc3 hg3
    go_wp2_with fail
    refine (byte_u v n xs s3 g _ C3.out).mono ?_
    rw [← c4.out, ← t4.out]
    rintro e w4 ⟨rfl, hc4, hg4⟩
    have C4 := Lib.hid hc4
    have G4 := Lib.hid (G3.out.trans hg4)
    clear hc4 hg4
    go_wp2
    go_ret
    exact ⟨ret_int (by simp), C4.out, G4.out⟩
end Go.Proofs.Ytkgbkgonlopciaa
