/- The walks of PartsOf: a line cut at its spaces. -/
import Derived.Test.YtpfhhmlbciojaaaProg
import Derived.Test.YtpfhhmlbciojaaaK
import Derived.Test.YtpfhhmlbciojaaaK2
import Derived.Test.YtpfhhmlbciojaaaK4
import Derived.StillTailTactics
namespace Go.Proofs.Ytpfhhmlbciojaaa
open Go.RowKit
set_option linter.unusedVariables false
set_option linter.unusedSimpArgs false

/-- the parts before i, and where the next one begins -/
def ptS (s : ByteArray) : Nat → List ByteArray × Nat
  | 0 => ([], 0)
  | i + 1 => if h : i < s.size then (if s[i].toNat = 32 then (if (ptS s i).2 < i then (ptS s i).1 ++ [s.extract (ptS s i).2 i] else (ptS s i).1, i + 1) else ptS s i)
    else (if (ptS s i).2 < i then (ptS s i).1 ++ [s.extract (ptS s i).2 i] else (ptS s i).1, i + 1)
theorem ptS_go {s : ByteArray} {i : Nat} (h : i < s.size) (hc : s[i].toNat ≠ 32) : ptS s (i + 1) = ptS s i := by rw [ptS, dif_pos h, if_neg hc]
theorem ptS_cut {s : ByteArray} {i b : Nat} {L : List ByteArray} (h : ∀ h : i < s.size, s[i].toNat = 32) (e : ptS s i = (L, b)) (hb : b < i) : ptS s (i + 1) = (L ++ [s.extract b i], i + 1) := by
  by_cases hi : i < s.size
  · rw [ptS, dif_pos hi, if_pos (h hi), e, if_pos hb]
  · rw [ptS, dif_neg hi, e, if_pos hb]
theorem ptS_none {s : ByteArray} {i b : Nat} {L : List ByteArray} (h : ∀ h : i < s.size, s[i].toNat = 32) (e : ptS s i = (L, b)) (hb : ¬ b < i) : ptS s (i + 1) = (L, i + 1) := by
  by_cases hi : i < s.size
  · rw [ptS, dif_pos hi, if_pos (h hi), e, if_neg hb]
  · rw [ptS, dif_neg hi, e, if_neg hb]
def ptG (s : ByteArray) : Bool := s.data.toList.all fun c => decide (32 ≤ c.toNat) && decide (c.toNat ≤ 126)
def ptB (s : ByteArray) : Bool := decide (s.size ≤ 600) && ptG s && decide ((ptS s (s.size + 1)).1.length ≤ 12)
def ptL (s : ByteArray) : List ByteArray := if ptB s then (ptS s (s.size + 1)).1 else []
theorem ptG_no {s : ByteArray} {k : Nat} (h : k < s.size) (hc : s[k].toNat < 32 ∨ 126 < s[k].toNat) : ptB s = false := by
  have : ptG s = false := by
    cases hg : ptG s
    · rfl
    · unfold ptG at hg
      rw [List.all_eq_true] at hg
      have := hg s[k] (by exact List.mem_iff_getElem.2 ⟨k, by simpa using h, rfl⟩)
      simp only [Bool.and_eq_true, decide_eq_true_eq] at this
      omega
  unfold ptB; rw [this]; simp
theorem ptG_yes {s : ByteArray} (h : ∀ (j : Nat) (hj : j < s.size), 32 ≤ s[j].toNat ∧ s[j].toNat ≤ 126) : ptG s = true := by
  unfold ptG
  rw [List.all_eq_true]
  intro c hc
  obtain ⟨j, hj, rfl⟩ := List.mem_iff_getElem.1 hc
  have := h j (by simpa using hj)
  simp only [Bool.and_eq_true, decide_eq_true_eq]
  exact this
theorem ptL_no {s : ByteArray} (h : ptB s = false) : ptL s = [] := by unfold ptL; rw [h]; rfl
def GivesParts (s : ByteArray) (w : World) (e : Ending) (w' : World) : Prop := ∃ v, e = .returned (.tuple #[v, .bool (ptB s)]) ∧ Obs w' w.heap.size 1 v (ptL s).length ((ptL s).map vs) ∧ Below w.heap.size w w'
theorem gp_no {s : ByteArray} {w w' : World} {v : Value} (h : ptB s = false) (ho : Obs w' w.heap.size 1 v 0 []) (hb : Below w.heap.size w w') : GivesParts s w (.returned (.tuple #[v, .bool false])) w' :=
  ⟨v, by rw [h], by rw [ptL_no h]; exact ho, hb⟩
theorem gp_yes {s : ByteArray} {w w' : World} {v : Value} {L : List ByteArray} (h : ptB s = true) (e : (ptS s (s.size + 1)).1 = L) (ho : Obs w' w.heap.size 1 v L.length (L.map vs)) (hb : Below w.heap.size w w') : GivesParts s w (.returned (.tuple #[v, .bool true])) w' :=
  ⟨v, by rw [h], by rw [ptL, h, if_pos rfl, e]; exact ho, hb⟩
theorem str_info : (Try.prog.info? 9).map (fun i => (i.zero, i.size, i.bytes)) = some (some (.string ⟨#[]⟩), 1, 16) := by kernel_rfl
theorem obs_empty8 (w : World) (e : TypeId) (size B : Nat) (hB : B ≤ w.heap.size) : Obs (w.alloc (.cells #[] e)) B size (.slice (some ⟨w.heap.size, 0, none⟩) 0 0) 0 [] :=
  ⟨by simp, .inr ⟨w.heap.size, 0, rfl, hB, by simp, by omega, by simp [maxLen], fun j hj => by omega, fun j u hu => by simp at hu⟩⟩
theorem vs_one (l : List ByteArray) : ∀ u, u ∈ l.map vs → u.oneCell' = true := by
  intro u hu
  obtain ⟨b, _, rfl⟩ := List.mem_map.1 hu
  rfl
/-- the parts so far, with what is known of them -/
def PtAt (s : ByteArray) (k b : Nat) (L : List ByteArray) : Prop := ptS s k = (L, b) ∧ L.length ≤ k ∧ b ≤ k ∧ ∀ (j : Nat) (hj : j < s.size), j < k → 32 ≤ s[j].toNat ∧ s[j].toNat ≤ 126
theorem PtAt.zero (s : ByteArray) : PtAt s 0 0 [] := ⟨rfl, Nat.le_refl _, Nat.le_refl _, fun j _ h => by omega⟩
theorem PtAt.go {s : ByteArray} {k b : Nat} {L : List ByteArray} (h : PtAt s k b L) (hk : k < s.size) (h1 : ¬ s[k].toNat < 32) (h2 : ¬ 126 < s[k].toNat) (h3 : s[k].toNat ≠ 32) : PtAt s (k + 1) b L :=
  ⟨(ptS_go hk h3).trans h.1, by have := h.2.1; omega, by have := h.2.2.1; omega, fun j hj hlt => by
    by_cases e : j = k
    · subst e; omega
    · exact h.2.2.2 j hj (by omega)⟩
theorem PtAt.more {s : ByteArray} {k b : Nat} {L : List ByteArray} (h : PtAt s k b L) (hk : ∀ h : k < s.size, s[k].toNat = 32) : ∀ (j : Nat) (hj : j < s.size), j < k + 1 → 32 ≤ s[j].toNat ∧ s[j].toNat ≤ 126 := fun j hj hlt => by
  by_cases e : j = k
  · subst e; have := hk hj; omega
  · exact h.2.2.2 j hj (by omega)
theorem PtAt.cut {s : ByteArray} {k b : Nat} {L : List ByteArray} (h : PtAt s k b L) (hk : ∀ h : k < s.size, s[k].toNat = 32) (hb : b < k) : PtAt s (k + 1) (k + 1) (L ++ [s.extract b k]) :=
  ⟨ptS_cut hk h.1 hb, by have := h.2.1; simp; omega, Nat.le_refl _, h.more hk⟩
theorem PtAt.none {s : ByteArray} {k b : Nat} {L : List ByteArray} (h : PtAt s k b L) (hk : ∀ h : k < s.size, s[k].toNat = 32) (hb : ¬ b < k) : PtAt s (k + 1) (k + 1) L :=
  ⟨ptS_none hk h.1 hb, by have := h.2.1; omega, Nat.le_refl _, h.more hk⟩
theorem PtAt.end_ {s : ByteArray} {b : Nat} {L : List ByteArray} (h : PtAt s (s.size + 1) b L) (h6 : s.size ≤ 600) : (ptS s (s.size + 1)).1 = L ∧ ptB s = decide (L.length ≤ 12) := by
  have e : (ptS s (s.size + 1)).1 = L := by rw [h.1]
  refine ⟨e, ?_⟩
  unfold ptB
  rw [ptG_yes (fun j hj => h.2.2.2 j hj (by omega)), e, decide_eq_true h6]
  simp
/-- where the impl's part begins; -1: it has not begun -/
def ptF (k b : Nat) (fr : Int) : Prop := (b < k ∧ fr = b) ∨ (b = k ∧ fr = -1)
set_option maxHeartbeats 1600000 in
theorem partsOf_i (s : ByteArray) (w : World) (hs : s.size ≤ 9223372036854775807) : Calls Try.prog 20 #[.string s] w (GivesParts s w) := by
  by_cases h6 : s.size ≤ 600
  case neg =>
    have HB : Hid (ptB s = false) := Lib.hid (by unfold ptB; rw [decide_eq_false h6]; rfl)
    go_enter Try.func20, Try.ntmps20
    go_wp2
    go_ret2
    exact gp_no HB.out (Obs.nil _ _ _) (Below.refl _ _)
  obtain ⟨i0, hi, hz0, hz1, hz2⟩ := info_parts str_info
  go_enter Try.func20, Try.ntmps20
  go_wp2
  go_loopw [4, 5, 6] (fun o f i wr => ∃ (k b : Nat) (L : List ByteArray) (fr : Int), k ≤ s.size + 1 ∧ i = .int .i64 (k : Int) ∧ f = .int .i64 fr ∧ Hid (ptF k b fr) ∧ Hid (PtAt s k b L) ∧ Obs wr w.heap.size 1 o L.length (L.map vs) ∧ Below w.heap.size w wr) (fun _ _ i _ => s.size + 1 - (intOf i).toNat)
  case atStart => exact ⟨0, 0, [], -1, by omega, rfl, rfl, Lib.hid (.inr ⟨rfl, rfl⟩), Lib.hid (PtAt.zero s), Obs.nil _ _ _, Below.refl _ _⟩
  case round =>
    obtain ⟨k, b, L, fr, hk, rfl, rfl, HF, HP, hob, hnx⟩ := hrel
    have hLk := HP.out.2.1
    by_cases hle : k ≤ s.size
    case neg =>
      obtain rfl : k = s.size + 1 := by omega
      obtain ⟨e1, e2⟩ := HP.out.end_ h6
      have HE1 := Lib.hid e1
      obtain ⟨A, cap, rfl⟩ := hob.shape
      by_cases hc : L.length ≤ 12
      · have HB : Hid (ptB s = true) := Lib.hid (by rw [e2, decide_eq_true hc])
        clear e1 e2
        go_wp2
        go_ret2
        exact gp_yes HB.out HE1.out hob hnx
      · have HB : Hid (ptB s = false) := Lib.hid (by rw [e2, decide_eq_false hc])
        clear e1 e2
        go_wp2
        go_ret2
        exact gp_no HB.out (Obs.nil _ _ _) hnx
    by_cases hlt : k < s.size
    · have hx := s[k].toNat_lt
      by_cases c1 : s[k].toNat < 32
      · have HB := Lib.hid (ptG_no hlt (.inl c1))
        go_wp2
        go_ret2
        exact gp_no HB.out (Obs.nil _ _ _) hnx
      · by_cases c2 : 126 < s[k].toNat
        · have HB := Lib.hid (ptG_no hlt (.inr c2))
          go_wp2
          go_ret2
          exact gp_no HB.out (Obs.nil _ _ _) hnx
        · by_cases c3 : s[k].toNat = 32
          · have HS : Hid (∀ h : k < s.size, s[k].toNat = 32) := Lib.hid (fun _ => c3)
            rcases HF.out with ⟨hbk, rfl⟩ | ⟨rfl, rfl⟩
            · skip
              have HP2 := Lib.hid (HP.out.cut HS.out hbk)
              go_wp2_with (at_builtin; refine wpList_append_obs2 _ rfl _ _ 35 rfl w.heap.size 9 i0 (.string ⟨#[]⟩) 1 16 Try.underlying35 hi hz0 hz1 hz2 rfl (by decide) _ L.length _ rfl (hob.alloc _) w.heap.size _ 1 _ rfl (obs_one wr 9 _ w.heap.size hnx.size) (by intro u hu; obtain rfl := List.mem_singleton.1 hu; rfl) (by unfold maxLen; omega) (by omega) (by have := hnx.size; simp; omega) ?_; intro v1 w1 ho1 hb1 _)
              have H1 : Hid (Obs w1 w.heap.size 1 v1 (L ++ [s.extract b k]).length ((L ++ [s.extract b k]).map vs)) := Lib.hid (by rw [List.length_append, List.map_append]; exact ho1)
              have H2 := Lib.hid ((hnx.alloc hnx.size _).trans hb1)
              clear ho1 hb1 hob
              go_roundw
              case rel => exact ⟨k + 1, k + 1, L ++ [s.extract b k], -1, by omega, by go_num, rfl, Lib.hid (.inr ⟨rfl, rfl⟩), HP2, H1.out, H2.out⟩
              case measure => (simp [intOf]; try omega)
            · skip
              have HP2 := Lib.hid (HP.out.none HS.out (Nat.lt_irrefl _))
              go_wp2
              go_roundw
              case rel => exact ⟨b + 1, b + 1, L, -1, by omega, by go_num, rfl, Lib.hid (.inr ⟨rfl, rfl⟩), HP2, hob, hnx⟩
              case measure => (simp [intOf]; try omega)
          · have q1 : ((k : Int) == (s.size : Int)) = false := by simp; omega
            have q2 : ((s[k].toNat : Int) == 32) = false := by simp; omega
            rcases HF.out with ⟨hbk, rfl⟩ | ⟨rfl, rfl⟩
            · have HP2 := Lib.hid (HP.out.go hlt c1 c2 c3)
              go_wp2
              go_roundw
              case rel => exact ⟨k + 1, b, L, (b : Int), by omega, by go_num, rfl, Lib.hid (.inl ⟨by omega, rfl⟩), HP2, hob, hnx⟩
              case measure => (simp [intOf]; try omega)
            · have HP2 := Lib.hid (HP.out.go hlt c1 c2 c3)
              go_wp2
              go_roundw
              case rel => exact ⟨b + 1, b, L, (b : Int), by omega, by go_num, rfl, Lib.hid (.inl ⟨by omega, rfl⟩), HP2, hob, hnx⟩
              case measure => (simp [intOf]; try omega)
    · have HS : Hid (∀ h : k < s.size, s[k].toNat = 32) := Lib.hid (fun h => absurd h hlt)
      obtain rfl : k = s.size := by omega
      clear hle hk hlt
      rcases HF.out with ⟨hbk, rfl⟩ | ⟨rfl, rfl⟩
      · skip
        have HP2 := Lib.hid (HP.out.cut HS.out hbk)
        go_wp2_with (at_builtin; refine wpList_append_obs2 _ rfl _ _ 35 rfl w.heap.size 9 i0 (.string ⟨#[]⟩) 1 16 Try.underlying35 hi hz0 hz1 hz2 rfl (by decide) _ L.length _ rfl (hob.alloc _) w.heap.size _ 1 _ rfl (obs_one wr 9 _ w.heap.size hnx.size) (by intro u hu; obtain rfl := List.mem_singleton.1 hu; rfl) (by unfold maxLen; omega) (by omega) (by have := hnx.size; simp; omega) ?_; intro v1 w1 ho1 hb1 _)
        have H1 : Hid (Obs w1 w.heap.size 1 v1 (L ++ [s.extract b s.size]).length ((L ++ [s.extract b s.size]).map vs)) := Lib.hid (by rw [List.length_append, List.map_append]; exact ho1)
        have H2 := Lib.hid ((hnx.alloc hnx.size _).trans hb1)
        clear ho1 hb1 hob
        go_roundw
        case rel => exact ⟨s.size + 1, s.size + 1, L ++ [s.extract b s.size], -1, by omega, by go_num, rfl, Lib.hid (.inr ⟨rfl, rfl⟩), HP2, H1.out, H2.out⟩
        case measure => (simp [intOf]; try omega)
      · skip
        have HP2 := Lib.hid (HP.out.none HS.out (Nat.lt_irrefl _))
        go_wp2
        go_roundw
        case rel => exact ⟨s.size + 1, s.size + 1, L, -1, by omega, by go_num, rfl, Lib.hid (.inr ⟨rfl, rfl⟩), HP2, hob, hnx⟩
        case measure => (simp [intOf]; try omega)
set_option maxHeartbeats 1600000 in
theorem partsOf_s (s : ByteArray) (w : World) (hs : s.size ≤ 9223372036854775807) : Calls Try.prog 19 #[.string s] w (GivesParts s w) := by
  by_cases h6 : s.size ≤ 600
  case neg =>
    have HB : Hid (ptB s = false) := Lib.hid (by unfold ptB; rw [decide_eq_false h6]; rfl)
    go_enter Try.func19, Try.ntmps19
    go_wp2
    go_ret2
    exact gp_no HB.out (obs_empty8 w 9 1 _ (Nat.le_refl _)) ((Below.refl _ _).alloc (Nat.le_refl _) _)
  obtain ⟨i0, hi, hz0, hz1, hz2⟩ := info_parts str_info
  have O0 := Lib.hid (obs_empty8 w 9 1 w.heap.size (Nat.le_refl _))
  have L0 := Lib.hid ((Below.refl w.heap.size w).alloc (Nat.le_refl _) (.cells #[] 9))
  go_enter Try.func19, Try.ntmps19
  go_wp2
  go_loopw [4, 5, 6] (fun o f i wr => ∃ (k b : Nat) (L : List ByteArray), k ≤ s.size + 1 ∧ i = .int .i64 (k : Int) ∧ f = .int .i64 (b : Int) ∧ Hid (PtAt s k b L) ∧ Obs wr w.heap.size 1 o L.length (L.map vs) ∧ Below w.heap.size w wr) (fun _ _ i _ => s.size + 1 - (intOf i).toNat)
  case atStart => exact ⟨0, 0, [], by omega, rfl, rfl, Lib.hid (PtAt.zero s), O0.out, L0.out⟩
  case round =>
    clear O0 L0
    obtain ⟨k, b, L, hk, rfl, rfl, HP, hob, hnx⟩ := hrel
    have hLk := HP.out.2.1
    have hbk0 := HP.out.2.2.1
    by_cases hle : k ≤ s.size
    case neg =>
      obtain rfl : k = s.size + 1 := by omega
      obtain ⟨e1, e2⟩ := HP.out.end_ h6
      have HE1 := Lib.hid e1
      obtain ⟨A, cap, rfl⟩ := hob.shape
      by_cases hc : L.length ≤ 12
      · have HB : Hid (ptB s = true) := Lib.hid (by rw [e2, decide_eq_true hc])
        clear e1 e2
        go_wp2
        go_ret2
        exact gp_yes HB.out HE1.out hob hnx
      · have HB : Hid (ptB s = false) := Lib.hid (by rw [e2, decide_eq_false hc])
        clear e1 e2
        go_wp2
        go_ret2
        exact gp_no HB.out (obs_empty8 wr 9 1 _ hnx.size) (hnx.alloc hnx.size _)
    by_cases hlt : k < s.size
    · have hx := s[k].toNat_lt
      by_cases c1 : s[k].toNat < 32
      · have HB := Lib.hid (ptG_no hlt (.inl c1))
        go_wp2
        go_ret2
        exact gp_no HB.out (obs_empty8 wr 9 1 _ hnx.size) (hnx.alloc hnx.size _)
      · by_cases c2 : 126 < s[k].toNat
        · have HB := Lib.hid (ptG_no hlt (.inr c2))
          go_wp2
          go_ret2
          exact gp_no HB.out (obs_empty8 wr 9 1 _ hnx.size) (hnx.alloc hnx.size _)
        · by_cases c3 : s[k].toNat = 32
          · have HS : Hid (∀ h : k < s.size, s[k].toNat = 32) := Lib.hid (fun _ => c3)
            by_cases hbk : b < k
            · skip
              have HP2 := Lib.hid (HP.out.cut HS.out hbk)
              go_wp2_with (at_builtin; refine wpList_append_obs2 _ rfl _ _ 35 rfl w.heap.size 9 i0 (.string ⟨#[]⟩) 1 16 Try.underlying35 hi hz0 hz1 hz2 rfl (by decide) _ L.length _ rfl (hob.alloc _) w.heap.size _ 1 _ rfl (obs_one wr 9 _ w.heap.size hnx.size) (by intro u hu; obtain rfl := List.mem_singleton.1 hu; rfl) (by unfold maxLen; omega) (by omega) (by have := hnx.size; simp; omega) ?_; intro v1 w1 ho1 hb1 _)
              have H1 : Hid (Obs w1 w.heap.size 1 v1 (L ++ [s.extract b k]).length ((L ++ [s.extract b k]).map vs)) := Lib.hid (by rw [List.length_append, List.map_append]; exact ho1)
              have H2 := Lib.hid ((hnx.alloc hnx.size _).trans hb1)
              clear ho1 hb1 hob
              go_roundw
              case rel => exact ⟨k + 1, k + 1, L ++ [s.extract b k], by omega, by go_num, by go_num, HP2, H1.out, H2.out⟩
              case measure => (simp [intOf]; try omega)
            · obtain rfl : b = k := by omega
              have HP2 := Lib.hid (HP.out.none HS.out (Nat.lt_irrefl _))
              go_wp2
              go_roundw
              case rel => exact ⟨b + 1, b + 1, L, by omega, by go_num, by go_num, HP2, hob, hnx⟩
              case measure => (simp [intOf]; try omega)
          · have q1 : ((s[k].toNat : Int) == 32) = false := by simp; omega
            have q2 : ((s[k].toNat : Int) != 32) = true := by simp; omega
            have HP2 := Lib.hid (HP.out.go hlt c1 c2 c3)
            go_wp2
            go_roundw
            case rel => exact ⟨k + 1, b, L, by omega, by go_num, rfl, HP2, hob, hnx⟩
            case measure => (simp [intOf]; try omega)
    · have HS : Hid (∀ h : k < s.size, s[k].toNat = 32) := Lib.hid (fun h => absurd h hlt)
      obtain rfl : k = s.size := by omega
      clear hle hk hlt
      by_cases hbk : b < s.size
      · skip
        have HP2 := Lib.hid (HP.out.cut HS.out hbk)
        go_wp2_with (at_builtin; refine wpList_append_obs2 _ rfl _ _ 35 rfl w.heap.size 9 i0 (.string ⟨#[]⟩) 1 16 Try.underlying35 hi hz0 hz1 hz2 rfl (by decide) _ L.length _ rfl (hob.alloc _) w.heap.size _ 1 _ rfl (obs_one wr 9 _ w.heap.size hnx.size) (by intro u hu; obtain rfl := List.mem_singleton.1 hu; rfl) (by unfold maxLen; omega) (by omega) (by have := hnx.size; simp; omega) ?_; intro v1 w1 ho1 hb1 _)
        have H1 : Hid (Obs w1 w.heap.size 1 v1 (L ++ [s.extract b s.size]).length ((L ++ [s.extract b s.size]).map vs)) := Lib.hid (by rw [List.length_append, List.map_append]; exact ho1)
        have H2 := Lib.hid ((hnx.alloc hnx.size _).trans hb1)
        clear ho1 hb1 hob
        go_roundw
        case rel => exact ⟨s.size + 1, s.size + 1, L ++ [s.extract b s.size], by omega, by go_num, by go_num, HP2, H1.out, H2.out⟩
        case measure => (simp [intOf]; try omega)
      · obtain rfl : b = s.size := by omega
        have HP2 := Lib.hid (HP.out.none HS.out (Nat.lt_irrefl _))
        go_wp2
        go_roundw
        case rel => exact ⟨s.size + 1, s.size + 1, L, by omega, by go_num, by go_num, HP2, hob, hnx⟩
        case measure => (simp [intOf]; try omega)
end Go.Proofs.Ytpfhhmlbciojaaa
