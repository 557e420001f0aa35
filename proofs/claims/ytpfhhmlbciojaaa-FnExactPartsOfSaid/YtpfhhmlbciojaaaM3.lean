/- The walks of the laws' helpers: slices of strings compared, marked, looked at again. -/
import Derived.Test.YtpfhhmlbciojaaaProg
import Derived.Test.YtpfhhmlbciojaaaK
import Derived.Test.YtpfhhmlbciojaaaK2
import Derived.Test.YtpfhhmlbciojaaaK4
import Derived.Deep.QuietTactic
import Derived.BigQuiet
import Derived.Deep.RegionHeld3
import Derived.RegionTactic
import Derived.StillTailTactics
namespace Go.Proofs.Ytpfhhmlbciojaaa
open Go.RowKit
set_option linter.unusedVariables false
set_option linter.unusedSimpArgs false

theorem Only.later {w w1 w2 : World} {v : Value} (h : Only w w1 v) (hb : Below w1.heap.size w1 w2) : Only w w2 v :=
  ⟨hb.os.trans h.os, hb.tape.trans h.tape, hb.output.trans h.output, Nat.le_trans h.size hb.size, fun k hk hne => (hb.block k (Nat.lt_of_lt_of_le hk h.size)).trans (h.block k hk hne)⟩
theorem held_keep {w w1 w2 : World} {b o : Nat} {u : Value} (hb : b < w.heap.size) (e : w.cell? ⟨b, o, none⟩ = some u) (h : w1.cell? ⟨b, o, none⟩ = some u ∧ Below w.heap.size w w1) (h2 : Below w1.heap.size w1 w2) : w2.cell? ⟨b, o, none⟩ = some u ∧ Below w.heap.size w w2 :=
  have h3 := h.2.trans (h2.mono h.2.size)
  ⟨(h3.cell (p := ⟨b, o, none⟩) hb).trans e, h3⟩
theorem getElem?_map_vs (xs : List ByteArray) (k : Nat) (h : k < xs.length) : (xs.map vs)[k]? = some (.string (xs[k]'h)) := by simp [h, vs]
def markT (k : Nat) : ByteArray := str (109 :: decD k)
set_option maxHeartbeats 1600000 in
theorem markText_l (N : Nat) (w : World) (h0 : 1 ≤ N) (hN : N ≤ 9223372036854775807) :
    Calls Try.prog 40 #[.int .i64 (N : Int)] w fun e w' => e = .returned (.string (markT N)) ∧ Below w.heap.size w w' := by
  have hp : ¬ ((N : Int) ≤ 0) := by omega
  have HDD : Hid (decD N = decG 20 N) := Lib.hid (by unfold decD decH; rw [if_neg (by omega)])
  have hl20 := decD_len N
  have HL := Lib.hid hl20
  clear hl20
  go_enter Try.func40, Try.ntmps40
  go_wp2
  clear hp
  go_loopw [0, 3] (fun n v wr => ∃ (f M : Nat) (D : List UInt8), n = .int .i64 (M : Int) ∧ v = .string (str D) ∧ M < 10 ^ f ∧ M ≤ 9223372036854775807 ∧ f + D.length ≤ 20 ∧ Hid (decG 20 N = decG f M ++ D) ∧ Below w.heap.size w wr) (fun n _ _ => (intOf n).natAbs)
  case atStart => exact ⟨20, N, [], rfl, rfl, by omega, hN, by simp, Lib.hid (by simp), Below.refl _ _⟩
  case round =>
    obtain ⟨f, M, D, rfl, rfl, hf, hM, hD, HE, hnx⟩ := hrel
    by_cases h1 : 1 ≤ M
    · have ho := one_byte (M % 10) (by omega)
      obtain ⟨c, hc⟩ : ∃ c, c = UInt8.ofNat (48 + M % 10) := ⟨_, rfl⟩
      rw [← hc] at ho
      have HO := Lib.hid ho
      have HX : Hid (str [c] ++ str D = str (c :: D)) := Lib.hid (by simp [str, ByteArray.ext_iff])
      have q1 : (0 : Int) ≤ (M : Int) % 10 := by omega
      have q0 : (M : Int) % 10 < 10 := by omega
      obtain ⟨f', rfl, hh, hf'⟩ := decG_step (show M ≠ 0 by omega) hf
      have HN : Hid (decG 20 N = decG f' (M / 10) ++ (c :: D)) := Lib.hid (by rw [HE.out, hh, ← hc]; simp)
      have HF' := Lib.hid hf'
      have HD' := Lib.hid (show f' + (D.length + 1) ≤ 20 by omega)
      clear hh hf' hf ho hc
      have s1 : (str [c]).size = 1 := by simp [str_size]
      have s2 : (str D).size = D.length := str_size _
      have c1 : ¬ 9223372036854775807 < 1 + D.length := by omega
      have hst : ∀ W : World, Sem.run Try.prog (convert 22 9 (.slice (some ⟨W.heap.size, 0, none⟩) 1 1)) (W.alloc (.cells #[.int .u8 (48 + (M : Int) % 10)] 5)) = .ok (.string (str [c])) (W.alloc (.cells #[.int .u8 (48 + (M : Int) % 10)] 5)) := fun W => by
        have e : Value.int .u8 (48 + (M : Int) % 10) = vb c := by rw [← HO.out]; rfl
        rw [e]
        exact obs_string (P := Try.prog) _ 22 9 5 Try.underlying22 Try.underlying5 Try.underlying9 (obs_one W 5 _ W.heap.size (Nat.le_refl _))
      go_wp2
      go_roundw
      case rel => exact ⟨f', M / 10, c :: D, by first | go_num | simp, by rw [HX.out], HF'.out, by omega, HD'.out, HN, hnx.alloc hnx.size _⟩
      case measure => simp [intOf]; omega
    · obtain rfl : M = 0 := by omega
      have HR : Hid (str D = str (decD N)) := Lib.hid (by rw [HDD.out, HE.out, decG_zero]; rfl)
      have s2 : (str D).size = D.length := str_size _
      have c1 : ¬ 9223372036854775807 < 1 + D.length := by omega
      go_wp2
      go_ret
      exact ⟨ret_str (by rw [HR.out]; simp [markT, str, ByteArray.ext_iff]), hnx⟩
theorem eqStringS_l (a b : Value) (n : Nat) (xs : List ByteArray) (w : World) (ha : Rd w 1 a n (xs.map vs)) (hb : Rd w 1 b n (xs.map vs)) :
    Calls Try.prog 21 #[a, b] w fun e w' => e = .returned (.bool true) ∧ Below w.heap.size w w' := by
  have hl : xs.length = n := by have := ha.len; simpa using this
  by_cases h0 : n = 0
  · obtain ⟨A, ca, rfl, hm⟩ := ha.shape
    obtain ⟨A', cb, rfl, _⟩ := hb.shape
    subst h0
    clear ha hb hl
    go_enter Try.func21, Try.ntmps21
    go_wp2
    go_loop [5] (fun i => i = .int .i64 0) (fun i => 0)
    case atStart => rfl
    case round =>
      obtain rfl := hrel
      go_wp2
      go_ret
      exact ⟨rfl, Below.refl _ _⟩
  · obtain ⟨b1, o1, c1, rfl, hb1, hm, hc1⟩ := ha.full (by omega)
    obtain ⟨b2, o2, c2, rfl, hb2, _, hc2⟩ := hb.full (by omega)
    unfold maxLen at hm
    have HA := Lib.hid ha
    have HB := Lib.hid hb
    have HL := Lib.hid hl
    clear ha hb hl hc1 hc2
    go_enter Try.func21, Try.ntmps21
    go_wp2
    go_loopw [5] (fun i wr => ∃ k : Nat, k ≤ n ∧ i = .int .i64 (k : Int) ∧ Below w.heap.size w wr) (fun i _ => n - (intOf i).toNat)
    case atStart => exact ⟨0, Nat.zero_le _, rfl, Below.refl _ _⟩
    case round =>
      obtain ⟨k, hk, rfl, hnx⟩ := hrel
      by_cases hlt : k < n
      · have hx : (xs.map vs)[k]? = some (.string (xs[k]'(by have := HL.out; omega))) := getElem?_map_vs _ _ _
        have e1 : wr.cell? ⟨b1, o1 + k, none⟩ = some (.string (xs[k]'(by have := HL.out; omega))) := by
          obtain ⟨_, _, _, e, _, _, h⟩ := (HA.out.below hnx).full (by omega)
          simp only [Value.slice.injEq, Option.some.injEq, Addr.mk.injEq] at e
          obtain ⟨⟨rfl, rfl, _⟩, _, _⟩ := e
          exact h k _ hx
        have e2 : wr.cell? ⟨b2, o2 + k, none⟩ = some (.string (xs[k]'(by have := HL.out; omega))) := by
          obtain ⟨_, _, _, e, _, _, h⟩ := (HB.out.below hnx).full (by omega)
          simp only [Value.slice.injEq, Option.some.injEq, Addr.mk.injEq] at e
          obtain ⟨⟨rfl, rfl, _⟩, _, _⟩ := e
          exact h k _ hx
        obtain ⟨x, hxx⟩ : ∃ x, x = xs[k]'(by have := HL.out; omega) := ⟨_, rfl⟩
        rw [← hxx] at e1 e2
        clear hxx hx
        go_wp2
        go_quiet (fail)
        go_wp2
        go_roundw
        case rel => exact ⟨k + 1, by omega, by go_num, below_drewN hnx _⟩
        case measure => simp [intOf]; omega
      · obtain rfl : k = n := by omega
        go_wp2
        go_ret
        exact ⟨rfl, hnx⟩
/-- the texts from k on -/
def markTs (k : Nat) (n : Nat) : List ByteArray := (List.range n).map fun (i : Nat) => markT (k + i)
theorem markTs_len (k n : Nat) : (markTs k n).length = n := by simp [markTs]
theorem markTs_get {k n j : Nat} (h : j < n) : (markTs k n)[j]? = some (markT (k + j)) := by simp [markTs, h]
theorem markTs_set {k n j : Nat} {xs : List ByteArray} (hl : xs.length = n) (h : j < n) :
    (((markTs k j ++ xs.drop j).map vs).set j (vs (markT (k + j)))) = (markTs k (j + 1) ++ xs.drop (j + 1)).map vs := by
  rw [List.drop_eq_getElem_cons (by omega), List.map_append, List.map_cons, List.set_append_right _ _ (by simp [markTs_len])]
  simp [markTs, List.range_succ]
theorem markStringS_l (v : Value) (n : Nat) (xs : List ByteArray) (k : Nat) (B : Nat) (w : World) (hB : B ≤ w.heap.size) (h : Obs w B 1 v n (xs.map vs)) (hn : n ≤ 4294967296) (hk1 : 1 ≤ k) (hk : k ≤ 4294967296) :
    Calls Try.prog 22 #[v, .int .i64 k] w fun e w' => e = .returned (.int .i64 (k + n : Nat)) ∧ Obs w' B 1 v n ((markTs k n).map vs) ∧ Only w w' v := by
  have hl : xs.length = n := by have := h.1; simpa using this
  by_cases h0 : n = 0
  · obtain ⟨A, ca, rfl⟩ := h.shape
    subst h0
    have hx : xs = [] := List.eq_nil_of_length_eq_zero hl
    subst hx
    have H := Lib.hid h
    clear h hl
    go_enter Try.func22, Try.ntmps22
    go_wp2
    go_loop [1, 5] (fun m i => i = .int .i64 0 ∧ m = .int .i64 (k : Int)) (fun m i => 0)
    case atStart => exact ⟨rfl, rfl⟩
    case round =>
      obtain ⟨rfl, rfl⟩ := hrel
      go_wp2
      go_ret
      exact ⟨rfl, H.out, Only.refl _ _⟩
  · obtain ⟨g, cap, rfl⟩ := h.full (by omega)
    have hgB := (h.lt g rfl).1
    have hgl := (h.lt g rfl).2
    have H0 := Lib.hid h
    have HL := Lib.hid hl
    clear h hl
    go_enter Try.func22, Try.ntmps22
    go_wp2
    go_loopw [1, 5] (fun m i wr => ∃ j : Nat, j ≤ n ∧ i = .int .i64 (j : Int) ∧ m = .int .i64 ((k + j : Nat) : Int) ∧ Hid (Obs wr B 1 (.slice (some ⟨g, 0, none⟩) n cap) n ((markTs k j ++ xs.drop j).map vs)) ∧ Hid (Only w wr (.slice (some ⟨g, 0, none⟩) n cap))) (fun _ i _ => n - (intOf i).toNat)
    case atStart => exact ⟨0, Nat.zero_le _, rfl, by simp, Lib.hid (by simpa [markTs] using H0.out), Lib.hid (Only.refl _ _)⟩
    case round =>
      clear H0
      obtain ⟨j, hj, rfl, rfl, H, HO⟩ := hrel
      by_cases hlt : j < n
      · go_wp2_with fail
        refine (markText_l (k + j) wr (by omega) (by omega)).mono ?_
        rintro e w2 ⟨rfl, hb2⟩
        have H1 := Lib.hid (H.out.below hb2)
        have HO1 := Lib.hid (HO.out.later hb2)
        clear hb2 H HO
        obtain ⟨u, hu⟩ : ∃ u, ((markTs k j ++ xs.drop j).map vs)[j]? = some u := ⟨_, List.getElem?_eq_getElem (by simp [markTs_len]; have := HL.out; omega)⟩
        obtain ⟨hcell, hfr⟩ := H1.out.cellAt hu
        clear hu
        have H2 := Lib.hid (H1.out.set_ j (by omega) (vs (markT (k + j))))
        rw [markTs_set HL.out hlt] at H2
        have HO2 := Lib.hid (HO1.out.set_ (g := g) rfl j (vs (markT (k + j))))
        clear H1 HO1
        go_wp2
        go_roundw
        case rel => exact ⟨j + 1, by omega, by go_num, by go_num, H2, HO2⟩
        case measure => simp [intOf]; omega
      · obtain rfl : j = n := by omega
        have H2 : Hid (Obs wr B 1 (.slice (some ⟨g, 0, none⟩) j cap) j ((markTs k j).map vs)) := Lib.hid (by have h2 := H.out; rw [List.drop_of_length_le (by have := HL.out; omega), List.append_nil] at h2; exact h2)
        go_wp2
        go_ret
        exact ⟨ret_int (by simp), H2.out, HO.out⟩
theorem heldStringS_l (v : Value) (n : Nat) (k : Nat) (w : World) (h : Rd w 1 v n ((markTs k n).map vs)) (hn : n ≤ 4294967296) (hk1 : 1 ≤ k) (hk : k ≤ 4294967296) :
    Calls Try.prog 23 #[v, .int .i64 k] w fun e w' => e = .returned (.int .i64 (k + n : Nat)) ∧ Below w.heap.size w w' := by
  by_cases h0 : n = 0
  · obtain ⟨A, ca, rfl, _⟩ := h.shape
    subst h0
    clear h
    go_enter Try.func23, Try.ntmps23
    go_wp2
    go_loop [1, 5] (fun m i => i = .int .i64 0 ∧ m = .int .i64 (k : Int)) (fun m i => 0)
    case atStart => exact ⟨rfl, rfl⟩
    case round =>
      obtain ⟨rfl, rfl⟩ := hrel
      go_wp2
      go_ret
      exact ⟨rfl, Below.refl _ _⟩
  · obtain ⟨b1, o1, c1, rfl, hb1, hm, hc1⟩ := h.full (by omega)
    have HC := Lib.hid hc1
    clear h hc1
    go_enter Try.func23, Try.ntmps23
    go_wp2
    go_loopw [1, 5] (fun m i wr => ∃ j : Nat, j ≤ n ∧ i = .int .i64 (j : Int) ∧ m = .int .i64 ((k + j : Nat) : Int) ∧ Hid (Below w.heap.size w wr)) (fun _ i _ => n - (intOf i).toNat)
    case atStart => exact ⟨0, Nat.zero_le _, rfl, by simp, Lib.hid (Below.refl _ _)⟩
    case round =>
      obtain ⟨j, hj, rfl, rfl, HN⟩ := hrel
      by_cases hlt : j < n
      · have e1 : wr.cell? ⟨b1, o1 + j, none⟩ = some (.string (markT (k + j))) := (HN.out.cell (p := ⟨b1, o1 + j, none⟩) hb1).trans (HC.out j _ (by rw [List.getElem?_map, markTs_get hlt]; rfl))
        have hbr : b1 < wr.heap.size := Nat.lt_of_lt_of_le hb1 HN.out.size
        obtain ⟨T, hT⟩ : ∃ T, T = markT (k + j) := ⟨_, rfl⟩
        rw [← hT] at e1
        have HT := Lib.hid hT
        clear hT
        go_wp2_with fail
        go_region_held3 (fun w' => w'.cell? ⟨b1, o1 + j, none⟩ = some (.string T) ∧ Below wr.heap.size wr w')
          ((first | assumption | exact ⟨e1, (Below.refl _ wr).drew⟩ | (exact held_keep hbr e1 (by assumption) hb2)))
          ((go_at_call 40; refine (markText_l (k + j) _ (by omega) (by omega)).mono ?_; rintro e w2 ⟨rfl, hb2⟩; rw [← HT.out]))
        have HN2 : Hid (Below w.heap.size w w2) := Lib.hid (HN.out.trans ((‹_ ∧ Below wr.heap.size wr w2›).2.mono HN.out.size))
        clear HN hb2 e1
        go_wp2
        go_roundw
        case rel => exact ⟨j + 1, by omega, by go_num, by go_num, HN2⟩
        case measure => simp [intOf]; omega
      · obtain rfl : j = n := by omega
        go_wp2
        go_ret
        exact ⟨ret_int (by simp), HN.out⟩
end Go.Proofs.Ytpfhhmlbciojaaa
