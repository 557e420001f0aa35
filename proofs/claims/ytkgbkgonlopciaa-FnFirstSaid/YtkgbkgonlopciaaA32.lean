/- The walk of ReadSeg of the program. -/
import Derived.Test.YtkgbkgonlopciaaA26
import Derived.Test.YtkgbkgonlopciaaA29
import Derived.Test.YtkgbkgonlopciaaGB
import Derived.Test.YtkgbkgonlopciaaL20
import Derived.Deep.Cut
import Derived.Outline
import Derived.Deep.QuietTactic
import Derived.BigQuiet
import Derived.Deep.RegionHeld
namespace Go.Proofs.Ytkgbkgonlopciaa
open Go.RowKit
set_option linter.unusedVariables false
set_option linter.unusedSimpArgs false
/-- no segment -/
def noX : SD := ⟨0, 0, 0, 0, 0, 0, 0, [], ⟨#[]⟩⟩
def wdN : Nat → Nat
  | 0 => 4 | 1 => 4 | 2 => 2 | 3 => 2 | 4 => 4 | 5 => 4 | _ => 1
def posN : Nat → Nat
  | 0 => 0 | 1 => 4 | 2 => 8 | 3 => 10 | 4 => 12 | 5 => 16 | 6 => 20 | 7 => 21 | _ => 22
theorem pos_step {k : Nat} (h : k < 8) : posN (k + 1) = posN k + wdN k ∧ 1 ≤ wdN k ∧ wdN k ≤ 4 ∧ posN (k + 1) ≤ 22 := by
  match k, h with
  | 0, _ => decide
  | 1, _ => decide
  | 2, _ => decide
  | 3, _ => decide
  | 4, _ => decide
  | 5, _ => decide
  | 6, _ => decide
  | 7, _ => decide
/-- the first k numbers have been read -/
def segK (s : ByteArray) (k : Nat) : SD := ⟨if 0 < k then numAtN s 0 4 else 0, if 1 < k then numAtN s 4 4 else 0, if 2 < k then numAtN s 8 2 else 0, if 3 < k then numAtN s 10 2 else 0, if 4 < k then numAtN s 12 4 else 0, if 5 < k then numAtN s 16 4 else 0, if 6 < k then numAtN s 20 1 else 0, [], ⟨#[]⟩⟩
theorem segK_set (s : ByteArray) {k : Nat} (h : k < 7) : (vxC (segK s k) (.slice none 0 0)).set k (.int .i64 ((numAtN s (posN k : Nat) (wdN k : Nat) : Nat) : Int)) = vxC (segK s (k + 1)) (.slice none 0 0) := by
  match k, h with
  | 0, _ => rfl
  | 1, _ => rfl
  | 2, _ => rfl
  | 3, _ => rfl
  | 4, _ => rfl
  | 5, _ => rfl
  | 6, _ => rfl
theorem segK_8 (s : ByteArray) : vxC (segK s 8) (.slice none 0 0) = vxC (segOf s [] ⟨#[]⟩) (.slice none 0 0) := rfl
theorem segK_7 (s : ByteArray) : vxC (segK s 7) (.slice none 0 0) = vxC (segK s 8) (.slice none 0 0) := rfl
theorem segK_0 (s : ByteArray) : vxC (segK s 0) (.slice none 0 0) = vxC noX (.slice none 0 0) := rfl
theorem numAtB_nat {s : ByteArray} {A M : Nat} (h1 : 1 ≤ M) (h6 : M ≤ 6) : numAtB s A M = decide (A + M ≤ s.size) := by
  by_cases h : A + M ≤ s.size
  · rw [numAtB_mk h1 h6 h, decide_eq_true h]
  · rw [decide_eq_false h]
    cases e : numAtB s A M
    · rfl
    · obtain ⟨A', M', e1, e2, _, _, h3⟩ := numAtB_yes e
      omega
theorem readN_none {s : ByteArray} {i : Nat} (h : readN s i = none) : ∀ j, i ≤ j → readN s j = none
  | j, hj => by
    induction j with
    | zero => obtain rfl : i = 0 := by omega
              exact h
    | succ j ih =>
      by_cases e : i = j + 1
      · rw [← e]; exact h
      · have := ih (by omega)
        unfold readN
        rw [this]
theorem readN_next {s : ByteArray} {i : Nat} {r : List OD × Nat} {o : OD} (h : readN s i = some r) (ho : readO s r.2 = some o) : readN s (i + 1) = some (r.1 ++ [o], r.2 + (optL o).length) := by
  conv => lhs; unfold readN
  rw [h]
  dsimp only
  rw [ho]
theorem readN_stop {s : ByteArray} {i : Nat} {r : List OD × Nat} (h : readN s i = some r) (ho : readO s r.2 = none) : readN s (i + 1) = none := by
  conv => lhs; unfold readN
  rw [h]
  dsimp only
  rw [ho]
/-- what the reading of a segment hands back -/
def GivesSeg (r : Option SD) (w : World) (e : Ending) (w' : World) : Prop := match r with
  | some x => ∃ v ivs, e = .returned (.tuple #[vx x v, .bool true]) ∧ ObO w' w.heap.size v x.ops.length x.ops ivs ∧ Apt v ivs ∧ x.wf ∧ (∀ o ∈ x.ops, o.ids.length ≤ 8) ∧ Below w.heap.size w w'
  | none => e = .returned (.tuple #[vx noX (.slice none 0 0), .bool false]) ∧ Below w.heap.size w w'
theorem results_seg2 {fn : Func} {t u b : Nat} {q : SD} {ov x : Value} {w : World} {tmps : Array Value} (h : fn.results = #[.cell t 37, .tmp u]) (ht : tmps[t]? = some (.pointer (some ⟨b, 0, none⟩))) (hu : tmps[u]? = some x) (hB : Bx w b (vxC q ov)) :
    (results fn tmps).run Try.prog w = .ok (.tuple #[vx q ov, x]) w := by
  have hl := run_loadVar_mid (P := Try.prog) w b 0 37 (vxC q ov) _ (fun j v hj => by rw [Nat.zero_add]; exact hB.2 j v hj) Try.underlying37 rfl (by kernel_rfl)
  simp [results, h, ht, hu, hl, vx_vxC, asAddr]
theorem vxC_one (q : SD) (A : Option Addr) (n c : Nat) : (vxC q (.slice A n c)).toArray.all (·.oneCell') = true := by simp [vxC, Value.oneCell']
theorem wpl_store_segM {ops : Array Oper} {rest : List Oper} {op : Oper} {a : Act} {w : World} {Q : Exit → Act → World → Prop} {x y : Operand} {q : SD} {A : Option Addr} {n c b : Nat} {cs : List Value} (hgd : op.guard = none) (ho : op.op = .store 37 x y)
    (hx : a.eval x = .pointer (some ⟨b, 0, none⟩)) (hy : a.eval y = vx q (.slice A n c)) (hb : Blk w b 37 cs) (hl : cs.length = 9) (hK : wpList Try.prog ops Q rest (a.put op.dst undef) (w.setCells b 0 (vxC q (.slice A n c)))) :
    wpList Try.prog ops Q (op :: rest) a w :=
  wpList_store_mid hgd 37 x y ho b 0 (vxC q (.slice A n c)).toArray hx hy (hb.there _ (by rw [hl]; rfl)) (by kernel_rfl) (vxC_one q A n c) hK
theorem wpl_segG {ops : Array Oper} {rest : List Oper} {op : Oper} {a : Act} {w : World} {Q : Exit → Act → World → Prop} {x : Operand} {b : Nat} {q : SD} {ov : Value} (hw : Region.wanted op (yielded ops a.tmps) = true) (ho : op.op = .load 37 x)
    (hx : a.eval x = .pointer (some ⟨b, 0, none⟩)) (h : Bx w b (vxC q ov)) (hK : wpList Try.prog ops Q rest (a.put op.dst (vx q ov)) w) : wpList Try.prog ops Q (op :: rest) a w := by
  unfold wpList
  rw [if_pos hw]
  left
  exact wp_load_mid 37 x ho b 0 hx (vxC q ov) _ (fun j v hj => by rw [Nat.zero_add]; exact h.2 j v hj) Try.underlying37 rfl (by kernel_rfl) hK
theorem seg_no {w W : World} {cs : List Value} (L : Below w.heap.size w W) : GivesSeg none w (.returned (.tuple #[vx noX (.slice none 0 0), .bool false])) (W.setCells w.heap.size 0 cs) :=
  ⟨rfl, Below.setCells' L (Nat.le_refl _) _ _⟩
set_option maxRecDepth 100000 in
set_option maxHeartbeats 6400000 in
theorem readSeg_i (s : ByteArray) (w : World) (hs : s.size ≤ 1048576) :
    Calls Try.prog 49 #[.string s] w (GivesSeg (readSI s) w) := by
  obtain ⟨r, hr⟩ : ∃ r, r = readSI s := ⟨_, rfl⟩
  rw [← hr]
  have HR := Lib.hid hr
  have hs63 : s.size ≤ 9223372036854775807 := by omega
  clear hr
  go_enter Try.func49, Try.ntmps49
  go_wp2
  obtain ⟨W0, hW0⟩ : ∃ W0, W0 = ((w.alloc (.cells (vxC noX (.slice none 0 0)).toArray 37)).alloc (.cells (vxC noX (.slice none 0 0)).toArray 37)).alloc (.cells [Value.int .i64 0].toArray 3) := ⟨_, rfl⟩
  have hz0 : W0.heap.size = w.heap.size + 3 := by rw [hW0]; simp
  have X2 := Lib.hid (((Blk.new w 37 (vxC noX (.slice none 0 0)).toArray).alloc (.cells (vxC noX (.slice none 0 0)).toArray 37)).alloc (.cells [Value.int .i64 0].toArray 3))
  have X4 := Lib.hid ((Blk.new (w.alloc (.cells (vxC noX (.slice none 0 0)).toArray 37)) 37 (vxC noX (.slice none 0 0)).toArray).alloc (.cells [Value.int .i64 0].toArray 3))
  have X6 := Lib.hid (Blk.new ((w.alloc (.cells (vxC noX (.slice none 0 0)).toArray 37)).alloc (.cells (vxC noX (.slice none 0 0)).toArray 37)) 3 [Value.int .i64 0].toArray)
  have L0 := Lib.hid ((((Below.refl w.heap.size w).alloc (Nat.le_refl _) (.cells (vxC noX (.slice none 0 0)).toArray 37)).alloc (by simp) (.cells (vxC noX (.slice none 0 0)).toArray 37)).alloc (by simp; omega) (.cells [Value.int .i64 0].toArray 3))
  rw [← hW0] at X2 X4 X6 L0
  simp only [World.size_alloc] at X4 X6
  obtain ⟨F, hF⟩ : ∃ F : List Value, F = [.pointer (some ⟨w.heap.size + 1, 0, none⟩), .int .i64 4, .pointer (some ⟨w.heap.size + 1, 1, none⟩), .int .i64 4, .pointer (some ⟨w.heap.size + 1, 2, none⟩), .int .i64 2, .pointer (some ⟨w.heap.size + 1, 3, none⟩), .int .i64 2, .pointer (some ⟨w.heap.size + 1, 4, none⟩), .int .i64 4, .pointer (some ⟨w.heap.size + 1, 5, none⟩), .int .i64 4, .pointer (some ⟨w.heap.size + 1, 6, none⟩), .int .i64 1, .pointer (some ⟨w.heap.size + 1 + 1, 0, none⟩), .int .i64 1] := ⟨_, rfl⟩
  obtain ⟨W, hW⟩ : ∃ W, W = W0.alloc (.cells F.toArray 99) := ⟨_, rfl⟩
  change Code.wp _ _ _ _ ((((w.alloc (.cells (vxC noX (.slice none 0 0)).toArray 37)).alloc (.cells (vxC noX (.slice none 0 0)).toArray 37)).alloc (.cells [Value.int .i64 0].toArray 3)).alloc (.cells [.pointer (some ⟨w.heap.size + 1, 0, none⟩), .int .i64 4, .pointer (some ⟨w.heap.size + 1, 1, none⟩), .int .i64 4, .pointer (some ⟨w.heap.size + 1, 2, none⟩), .int .i64 2, .pointer (some ⟨w.heap.size + 1, 3, none⟩), .int .i64 2, .pointer (some ⟨w.heap.size + 1, 4, none⟩), .int .i64 4, .pointer (some ⟨w.heap.size + 1, 5, none⟩), .int .i64 4, .pointer (some ⟨w.heap.size + 1, 6, none⟩), .int .i64 1, .pointer (some ⟨w.heap.size + 1 + 1, 0, none⟩), .int .i64 1].toArray 99))
  rw [← hF, ← hW0, ← hW]
  have L1 : Hid (Below w.heap.size w W) := Lib.hid (by rw [hW]; exact L0.out.alloc L0.out.size _)
  have Y2 : Hid (Blk W w.heap.size 37 (vxC noX (.slice none 0 0))) := Lib.hid (by rw [hW]; exact X2.out.alloc _)
  have Y4 : Hid (Blk W (w.heap.size + 1) 37 (vxC (segK s 0) (.slice none 0 0))) := Lib.hid (by rw [hW]; exact X4.out.alloc _)
  have Y6 : Hid (Blk W (w.heap.size + 1 + 1) 3 [.int .i64 0]) := Lib.hid (by rw [hW]; exact X6.out.alloc _)
  have FR : Hid (∀ k, k < 8 → W.cell? ⟨w.heap.size + 1 + 1 + 1, k * 2, none⟩ = some (.pointer (some (if k < 7 then ⟨w.heap.size + 1, k, none⟩ else ⟨w.heap.size + 1 + 1, 0, none⟩))) ∧ W.cell? ⟨w.heap.size + 1 + 1 + 1, k * 2 + 1, none⟩ = some (.int .i64 ((wdN k : Nat) : Int))) := Lib.hid (fun k hk => by
    have h1 := Bx.new W0 F.toArray 99
    rw [← hW, hz0, hF] at h1
    match k, hk with
    | 0, _ => exact ⟨h1.2 0 _ rfl, h1.2 1 _ rfl⟩
    | 1, _ => exact ⟨h1.2 2 _ rfl, h1.2 3 _ rfl⟩
    | 2, _ => exact ⟨h1.2 4 _ rfl, h1.2 5 _ rfl⟩
    | 3, _ => exact ⟨h1.2 6 _ rfl, h1.2 7 _ rfl⟩
    | 4, _ => exact ⟨h1.2 8 _ rfl, h1.2 9 _ rfl⟩
    | 5, _ => exact ⟨h1.2 10 _ rfl, h1.2 11 _ rfl⟩
    | 6, _ => exact ⟨h1.2 12 _ rfl, h1.2 13 _ rfl⟩
    | 7, _ => exact ⟨h1.2 14 _ rfl, h1.2 15 _ rfl⟩)
  have HS1 : Hid (w.heap.size + 4 ≤ W.heap.size) := Lib.hid (by rw [hW]; simp; omega)
  clear hW hW0 hF L0 X2 X4 X6 hz0
  go_loopw [5, 37] (fun at_ i wr => ∃ k : Nat, k ≤ 8 ∧ i = .int .i64 (k : Int) ∧ at_ = .int .i64 ((posN k : Nat) : Int) ∧ Hid (posN k ≤ s.size) ∧ Hid (Blk wr w.heap.size 37 (vxC noX (.slice none 0 0))) ∧ Hid (Blk wr (w.heap.size + 1) 37 (vxC (segK s k) (.slice none 0 0))) ∧ Hid (Blk wr (w.heap.size + 1 + 1) 3 [.int .i64 ((if 7 < k then numAtN s 21 1 else 0 : Nat) : Int)]) ∧ Hid (∀ k, k < 8 → wr.cell? ⟨w.heap.size + 1 + 1 + 1, k * 2, none⟩ = some (.pointer (some (if k < 7 then ⟨w.heap.size + 1, k, none⟩ else ⟨w.heap.size + 1 + 1, 0, none⟩))) ∧ wr.cell? ⟨w.heap.size + 1 + 1 + 1, k * 2 + 1, none⟩ = some (.int .i64 ((wdN k : Nat) : Int))) ∧ Hid (w.heap.size + 4 ≤ wr.heap.size) ∧ Hid (Below w.heap.size w wr)) (fun _ i _ => 8 - (intOf i).toNat)
  case atStart => exact ⟨0, Nat.zero_le _, rfl, rfl, Lib.hid (Nat.zero_le _), Y2, Y4, Y6, FR, HS1, L1⟩
  case round =>
    clear Y2 Y4 Y6 FR HS1 L1
    obtain ⟨k, hk, rfl, rfl, HPS, Y2, Y4, Y6, FR, HS1, HN⟩ := hrel
    by_cases hlt : k < 8
    · obtain ⟨hst, hw1, hw4, h22⟩ := pos_step hlt
      obtain ⟨f0, f1⟩ := FR.out k hlt
      obtain ⟨P, hP⟩ : ∃ P, P = posN k := ⟨_, rfl⟩
      obtain ⟨M, hM⟩ : ∃ M, M = wdN k := ⟨_, rfl⟩
      obtain ⟨p, hp⟩ : ∃ p : Addr, p = (if k < 7 then ⟨w.heap.size + 1, k, none⟩ else ⟨w.heap.size + 1 + 1, 0, none⟩) := ⟨_, rfl⟩
      rw [← hP, ← hM] at hst
      rw [← hM] at hw1 hw4 f1
      rw [← hp] at f0
      rw [← hP]
      have HP := Lib.hid hP
      have HM := Lib.hid hM
      have HPP := Lib.hid hp
      have HST := Lib.hid hst
      have H22 := Lib.hid h22
      have wPM : IntKind.i64.wrap ((P : Int) + (M : Int)) = (P : Int) + (M : Int) := IntWalk.i64_in _ (by omega)
      clear hP hM hp hst h22
      go_upto_region 8 with (fail)
      clear f0 f1
      obtain ⟨W1, hW1⟩ : ∃ W1, W1 = wr.alloc (.cells #[.pointer (some p), .int .i64 (M : Int)] 99) := ⟨_, rfl⟩
      rw [← hW1]
      have E1 := Lib.hid ((Below.refl wr.heap.size wr).alloc (Nat.le_refl _) (.cells #[.pointer (some p), .int .i64 (M : Int)] 99))
      have G1 := Lib.hid (Bx.new wr #[.pointer (some p), .int .i64 (M : Int)] 99)
      rw [← hW1] at E1 G1
      obtain ⟨b9, hb9⟩ : ∃ b, b = wr.heap.size := ⟨_, rfl⟩
      have HB9 : Hid (w.heap.size + 4 ≤ b9) := Lib.hid (by have := HS1.out; omega)
      rw [← hb9] at G1 ⊢
      have Z2 := Lib.hid (Y2.out.below E1.out Y2.out.lt)
      have Z4 := Lib.hid (Y4.out.below E1.out Y4.out.lt)
      have Z6 := Lib.hid (Y6.out.below E1.out Y6.out.lt)
      have ZF : Hid (∀ k, k < 8 → W1.cell? ⟨w.heap.size + 1 + 1 + 1, k * 2, none⟩ = some (.pointer (some (if k < 7 then ⟨w.heap.size + 1, k, none⟩ else ⟨w.heap.size + 1 + 1, 0, none⟩))) ∧ W1.cell? ⟨w.heap.size + 1 + 1 + 1, k * 2 + 1, none⟩ = some (.int .i64 ((wdN k : Nat) : Int))) := Lib.hid (fun k hk => by
        have h1 := HS1.out
        exact ⟨(E1.out.cell (p := ⟨w.heap.size + 1 + 1 + 1, k * 2, none⟩) (by dsimp only; omega)).trans (FR.out k hk).1, (E1.out.cell (p := ⟨w.heap.size + 1 + 1 + 1, k * 2 + 1, none⟩) (by dsimp only; omega)).trans (FR.out k hk).2⟩)
      have L1 := Lib.hid (HN.out.trans (E1.out.mono HN.out.size))
      have S1 : Hid (w.heap.size + 4 ≤ W1.heap.size) := Lib.hid (Nat.le_trans HS1.out E1.out.size)
      clear hW1 hb9 E1 Y2 Y4 Y6 FR HN HS1
      have g1 : W1.cell? ⟨b9, 1, none⟩ = some (.int .i64 (M : Int)) := G1.out.2 1 _ rfl
      go_wp2_with fail
      refine (numAt_i s (P : Int) (M : Int) _ hs63).mono ?_
      obtain ⟨N, hN⟩ : ∃ N, N = numAtN s (P : Int) (M : Int) := ⟨_, rfl⟩
      obtain ⟨b, hb⟩ : ∃ b, b = numAtB s (P : Int) (M : Int) := ⟨_, rfl⟩
      rw [← hN, ← hb]
      have HNN := Lib.hid hN
      have HBB := Lib.hid hb
      have hNl : N < 281474976710656 := by rw [hN]; exact numAtN_lt s _ _
      clear hN hb g1
      rintro e W2 ⟨rfl, hb⟩
      have V2 := Lib.hid (Z2.out.below hb Z2.out.lt)
      have V4 := Lib.hid (Z4.out.below hb Z4.out.lt)
      have V6 := Lib.hid (Z6.out.below hb Z6.out.lt)
      have VG := Lib.hid (G1.out.below hb)
      have VF : Hid (∀ k, k < 8 → W2.cell? ⟨w.heap.size + 1 + 1 + 1, k * 2, none⟩ = some (.pointer (some (if k < 7 then ⟨w.heap.size + 1, k, none⟩ else ⟨w.heap.size + 1 + 1, 0, none⟩))) ∧ W2.cell? ⟨w.heap.size + 1 + 1 + 1, k * 2 + 1, none⟩ = some (.int .i64 ((wdN k : Nat) : Int))) := Lib.hid (fun k hk => by
        have h1 := S1.out
        exact ⟨(hb.cell (p := ⟨w.heap.size + 1 + 1 + 1, k * 2, none⟩) (by dsimp only; omega)).trans (ZF.out k hk).1, (hb.cell (p := ⟨w.heap.size + 1 + 1 + 1, k * 2 + 1, none⟩) (by dsimp only; omega)).trans (ZF.out k hk).2⟩)
      have L2 := Lib.hid (L1.out.trans (hb.mono L1.out.size))
      have S2 : Hid (w.heap.size + 4 ≤ W2.heap.size) := Lib.hid (Nat.le_trans S1.out hb.size)
      clear hb Z2 Z4 Z6 G1 ZF L1 S1
      cases b
      case false =>
        have HNo : Hid (r = none) := Lib.hid (by
          rw [HR.out]
          unfold readSI
          rw [if_neg]
          intro h
          have h1 := HBB.out
          rw [numAtB_nat hw1 (by omega)] at h1
          have h2 := H22.out
          have h3 := HST.out
          have h4 : P + M ≤ s.size := by omega
          rw [decide_eq_true h4] at h1
          cases h1)
        go_wp2_with (refine wpl_store_segM (q := noX) (A := none) (n := 0) (c := 0) rfl (by rfl) (by rfl) (by rfl) V2.out rfl ?_)
        refine bodyPost_ret (results_seg2 rfl (by rfl) (by rfl) (Bx.setCells (vs := vxC noX (.slice none 0 0)) V2.out rfl)) rfl ?_
        rw [HNo.out]
        exact seg_no L2.out
      have g0 : W2.cell? ⟨b9, 0, none⟩ = some (.pointer (some p)) := VG.out.2 0 _ rfl
      have g1 : W2.cell? ⟨b9, 1, none⟩ = some (.int .i64 (M : Int)) := VG.out.2 1 _ rfl
      have HPS2 : Hid (posN (k + 1) ≤ s.size) := Lib.hid (by
        have h1 := HBB.out
        rw [numAtB_nat hw1 (by omega)] at h1
        have h2 := HST.out
        have := of_decide_eq_true h1.symm
        omega)
      by_cases hk7 : k < 7
      · have hpk : p = ⟨w.heap.size + 1, k, none⟩ := by rw [HPP.out, if_pos hk7]
        have hc : ∃ u, W2.cell? ⟨w.heap.size + 1, k, none⟩ = some u := ⟨_, (V4.out.cell k).trans (List.getElem?_eq_getElem (by show k < 9; omega))⟩
        obtain ⟨u, hc⟩ := hc
        have hf := V4.out.frozen k
        have U4 : Hid (Blk (W2.setCell ⟨w.heap.size + 1, k, none⟩ (.int .i64 (N : Int))) (w.heap.size + 1) 37 (vxC (segK s (k + 1)) (.slice none 0 0))) := Lib.hid (by
          have h1 := V4.out.set_ k (.int .i64 (N : Int))
          rw [HNN.out, HP.out, HM.out, segK_set s hk7, ← HP.out, ← HM.out, ← HNN.out] at h1
          exact h1)
        have U2 := Lib.hid (V2.out.far (p := ⟨w.heap.size + 1, k, none⟩) (by dsimp only; omega) (.int .i64 (N : Int)))
        have U6 := Lib.hid (V6.out.far (p := ⟨w.heap.size + 1, k, none⟩) (by dsimp only; omega) (.int .i64 (N : Int)))
        have UL := Lib.hid (L2.out.setCell (p := ⟨w.heap.size + 1, k, none⟩) (by dsimp only; omega) (.int .i64 (N : Int)))
        have UF : Hid (∀ j, j < 8 → (W2.setCell ⟨w.heap.size + 1, k, none⟩ (.int .i64 (N : Int))).cell? ⟨w.heap.size + 1 + 1 + 1, j * 2, none⟩ = some (.pointer (some (if j < 7 then ⟨w.heap.size + 1, j, none⟩ else ⟨w.heap.size + 1 + 1, 0, none⟩))) ∧ (W2.setCell ⟨w.heap.size + 1, k, none⟩ (.int .i64 (N : Int))).cell? ⟨w.heap.size + 1 + 1 + 1, j * 2 + 1, none⟩ = some (.int .i64 ((wdN j : Nat) : Int))) := Lib.hid (fun j hj => by
          exact ⟨(World.cell?_setCell_far _ _ _ _ (by dsimp only; omega)).trans (VF.out j hj).1, (World.cell?_setCell_far _ _ _ _ (by dsimp only; omega)).trans (VF.out j hj).2⟩)
        have g1' : (W2.setCell ⟨w.heap.size + 1, k, none⟩ (.int .i64 (N : Int))).cell? ⟨b9, 1, none⟩ = some (.int .i64 (M : Int)) := (World.cell?_setCell_far _ _ _ _ (by dsimp only; have := HB9.out; omega)).trans g1
        have HE : Hid (Blk (W2.setCell ⟨w.heap.size + 1, k, none⟩ (.int .i64 (N : Int))) (w.heap.size + 1 + 1) 3 [.int .i64 ((if 7 < k + 1 then numAtN s 21 1 else 0 : Nat) : Int)]) := Lib.hid (by
          have h1 := U6.out
          rw [if_neg (by omega)] at h1 ⊢
          exact h1)
        have US : Hid (w.heap.size + 4 ≤ (W2.setCell ⟨w.heap.size + 1, k, none⟩ (.int .i64 (N : Int))).heap.size) := Lib.hid (by simp [World.setCell]; exact S2.out)
        subst hpk
        go_upto_region 12 with (fail)
        obtain ⟨W3, hW3⟩ : ∃ W3, W3 = W2.setCell ⟨w.heap.size + 1, k, none⟩ (.int .i64 (N : Int)) := ⟨_, rfl⟩
        rw [← hW3]
        rw [← hW3] at U4 U2 HE UL UF g1' US
        clear hW3 g0 g1 hc hf V2 V4 V6 VG VF L2 U6 S2
        have HNX : Hid ((P : Int) + (M : Int) = ((posN (k + 1) : Nat) : Int)) := Lib.hid (by rw [HST.out]; omega)
        go_wp2
        go_roundw
        case rel => exact ⟨k + 1, by omega, by go_num, by rw [HNX.out], HPS2, U2, U4, HE, UF, US, UL⟩
        case measure => (simp [intOf]; try omega)
      · obtain rfl : k = 7 := by omega
        have hpk : p = ⟨w.heap.size + 1 + 1, 0, none⟩ := by rw [HPP.out, if_neg hk7]
        have hc : W2.cell? ⟨w.heap.size + 1 + 1, 0, none⟩ = some (.int .i64 ((if 7 < 7 then numAtN s 21 1 else 0 : Nat) : Int)) := V6.out.cell 0
        have hf := V6.out.frozen 0
        have U6 : Hid (Blk (W2.setCell ⟨w.heap.size + 1 + 1, 0, none⟩ (.int .i64 (N : Int))) (w.heap.size + 1 + 1) 3 [.int .i64 ((if 7 < 7 + 1 then numAtN s 21 1 else 0 : Nat) : Int)]) := Lib.hid (by
          have h1 := V6.out.set_ 0 (.int .i64 (N : Int))
          rw [if_pos (by omega)]
          have h2 : N = numAtN s 21 1 := by rw [HNN.out, HP.out, HM.out]; rfl
          rw [← h2]
          exact h1)
        have U4 : Hid (Blk (W2.setCell ⟨w.heap.size + 1 + 1, 0, none⟩ (.int .i64 (N : Int))) (w.heap.size + 1) 37 (vxC (segK s (7 + 1)) (.slice none 0 0))) := Lib.hid (V4.out.far (p := ⟨w.heap.size + 1 + 1, 0, none⟩) (by dsimp only; omega) (.int .i64 (N : Int)))
        have U2 := Lib.hid (V2.out.far (p := ⟨w.heap.size + 1 + 1, 0, none⟩) (by dsimp only; omega) (.int .i64 (N : Int)))
        have UL := Lib.hid (L2.out.setCell (p := ⟨w.heap.size + 1 + 1, 0, none⟩) (by dsimp only; omega) (.int .i64 (N : Int)))
        have UF : Hid (∀ j, j < 8 → (W2.setCell ⟨w.heap.size + 1 + 1, 0, none⟩ (.int .i64 (N : Int))).cell? ⟨w.heap.size + 1 + 1 + 1, j * 2, none⟩ = some (.pointer (some (if j < 7 then ⟨w.heap.size + 1, j, none⟩ else ⟨w.heap.size + 1 + 1, 0, none⟩))) ∧ (W2.setCell ⟨w.heap.size + 1 + 1, 0, none⟩ (.int .i64 (N : Int))).cell? ⟨w.heap.size + 1 + 1 + 1, j * 2 + 1, none⟩ = some (.int .i64 ((wdN j : Nat) : Int))) := Lib.hid (fun j hj => by
          exact ⟨(World.cell?_setCell_far _ _ _ _ (by dsimp only; omega)).trans (VF.out j hj).1, (World.cell?_setCell_far _ _ _ _ (by dsimp only; omega)).trans (VF.out j hj).2⟩)
        have g1' : (W2.setCell ⟨w.heap.size + 1 + 1, 0, none⟩ (.int .i64 (N : Int))).cell? ⟨b9, 1, none⟩ = some (.int .i64 (M : Int)) := (World.cell?_setCell_far _ _ _ _ (by dsimp only; have := HB9.out; omega)).trans g1
        have US : Hid (w.heap.size + 4 ≤ (W2.setCell ⟨w.heap.size + 1 + 1, 0, none⟩ (.int .i64 (N : Int))).heap.size) := Lib.hid (by simp [World.setCell]; exact S2.out)
        subst hpk
        go_upto_region 12 with (fail)
        obtain ⟨W3, hW3⟩ : ∃ W3, W3 = W2.setCell ⟨w.heap.size + 1 + 1, 0, none⟩ (.int .i64 (N : Int)) := ⟨_, rfl⟩
        rw [← hW3]
        rw [← hW3] at U4 U2 U6 UL UF g1' US
        clear hW3 g0 g1 hc hf V2 V4 V6 VG VF L2 S2
        have HNX : Hid ((P : Int) + (M : Int) = ((posN (7 + 1) : Nat) : Int)) := Lib.hid (by rw [HST.out]; omega)
        go_wp2
        go_roundw
        case rel => exact ⟨7 + 1, by omega, by go_num, by rw [HNX.out], HPS2, U2, U4, U6, UF, US, UL⟩
        case measure => (simp [intOf]; try omega)
    · have hk8 : k = 8 := by omega
      rw [hk8] at HPS Y4 Y6
      have H22 : Hid (22 ≤ s.size) := HPS
      obtain ⟨n8, hn8⟩ : ∃ n, n = numAtN s 21 1 := ⟨_, rfl⟩
      have hn256 : n8 < 256 := by rw [hn8]; exact numAtN_1 s 21
      have Z4 : Hid (Blk wr (w.heap.size + 1) 37 (vxC (segOf s [] ⟨#[]⟩) (.slice none 0 0))) := Lib.hid (by have h1 := Y4.out; rw [segK_8] at h1; exact h1)
      have Z6 : Hid (Blk wr (w.heap.size + 1 + 1) 3 [.int .i64 (n8 : Int)]) := Lib.hid (by have h1 := Y6.out; rw [if_pos (by omega), ← hn8] at h1; exact h1)
      have HRR : Hid (r = match readN s n8 with
          | some r => if tailB s r.2 = true ∧ segL (segOf s r.1 (textAtS s (r.2 + 2 : Nat) (numAtN s r.2 2))) = s.data.toList then some (segOf s r.1 (textAtS s (r.2 + 2 : Nat) (numAtN s r.2 2))) else none
          | none => none) := Lib.hid (by rw [HR.out]; unfold readSI; rw [if_pos H22.out, ← hn8]; rfl)
      rw [show ((posN k : Nat) : Int) = ((22 : Nat) : Int) by rw [hk8]; rfl, show ((k : Nat) : Int) = 8 by omega]
      clear hk8 hk hlt
      clear Y4 Y6 FR HPS hn8 HR
      go_wp2
      obtain ⟨wo, rfl⟩ : ∃ wo : World, wo = wr := ⟨_, rfl⟩
      go_loopw [5, 12] (fun at_ i wr => ∃ (k at2 cp : Nat) (A : Option Addr) (os : List OD) (ivs : List Value), k ≤ n8 ∧ i = .int .i64 (k : Int) ∧ at_ = .int .i64 (at2 : Int) ∧ Hid (readN s k = some (os, at2)) ∧ Hid (at2 ≤ s.size) ∧ Hid (∀ o ∈ os, o.wf ∧ o.ids.length ≤ 8) ∧ Hid (ObO wr (w.heap.size + 4) (.slice A k cp) k os ivs) ∧ Hid (Apt (.slice A k cp) ivs) ∧ Hid (Blk wr w.heap.size 37 (vxC noX (.slice none 0 0))) ∧ Hid (Blk wr (w.heap.size + 1) 37 (vxC (segOf s [] ⟨#[]⟩) (.slice A k cp))) ∧ Hid (Blk wr (w.heap.size + 1 + 1) 3 [.int .i64 (n8 : Int)]) ∧ Hid (w.heap.size + 4 ≤ wr.heap.size) ∧ Hid (Below w.heap.size w wr)) (fun _ i _ => n8 - (intOf i).toNat)
      case atStart => exact ⟨0, 22, 0, none, [], [], Nat.zero_le _, rfl, rfl, Lib.hid rfl, H22, Lib.hid (fun o h => by cases h), Lib.hid (ObO.nil _ _), Lib.hid (List.pairwise_singleton _ _), Y2, Z4, Z6, HS1, HN⟩
      case round =>
        clear Y2 Z4 Z6 HS1 HN H22
        obtain ⟨k, at2, cp, A, os, ivs, hk, rfl, rfl, HRN, HAT, HOW, OB, AP, Y2, Y4, Y6, HS1, HN⟩ := hrel
        have x6 : wr.cell? ⟨w.heap.size + 1 + 1, 0, none⟩ = some (.int .i64 (n8 : Int)) := Y6.out.cell 0
        have hat : at2 ≤ 1048576 := Nat.le_trans HAT.out hs
        by_cases hlt : k < n8
        · go_wp2_with fail
          refine (readOpt_i s (at2 : Int) wr hs63 (i64R_nat (by omega))).mono ?_
          rintro e w2 hg
          cases hro : readO s (at2 : Int) with
          | none =>
            rw [hro] at hg
            obtain ⟨rfl, hb⟩ := hg
            have HNo : Hid (r = none) := Lib.hid (by
              rw [HRR.out, readN_none (readN_stop HRN.out hro) n8 hlt])
            have V2 := Lib.hid (Y2.out.below hb Y2.out.lt)
            have L2 := Lib.hid (HN.out.trans (hb.mono HN.out.size))
            clear hb hro x6
            go_upto_region 18 with ((refine wpl_store_opt rfl (by rfl) (by rfl) (by rfl) ?_))
            obtain ⟨W3, hW3⟩ : ∃ W, W = w2.alloc (.cells (voC (OD.new 0 []) (.slice none 0 0)).toArray 27) := ⟨_, rfl⟩
            rw [← hW3]
            have U2 : Hid (Blk W3 w.heap.size 37 (vxC noX (.slice none 0 0))) := Lib.hid (by rw [hW3]; exact V2.out.alloc _)
            have L3 : Hid (Below w.heap.size w W3) := Lib.hid (by rw [hW3]; exact L2.out.alloc L2.out.size _)
            clear hW3 V2 L2
            go_wp2_with (refine wpl_store_segM (q := noX) (A := none) (n := 0) (c := 0) rfl (by rfl) (by rfl) (by rfl) U2.out rfl ?_)
            refine bodyPost_ret (results_seg2 rfl (by rfl) (by rfl) (Bx.setCells (vs := vxC noX (.slice none 0 0)) U2.out rfl)) rfl ?_
            rw [HNo.out]
            exact seg_no L3.out
          | some o =>
            rw [hro] at hg
            obtain ⟨iv, rfl, hob, hwf, hb⟩ := hg
            obtain ⟨A2, c2, rfl⟩ := hob.shape
            obtain ⟨at0, eat, hok, _, hle, hlen⟩ := readP_some (p := fun n => n == 1) hro
            obtain rfl : at2 = at0 := by omega
            obtain ⟨at3, hat3⟩ : ∃ a, a = at2 + (optL o).length := ⟨_, rfl⟩
            have eat3 : (at2 : Int) + 2 + (numAtN s ((at2 : Int) + 1) 1 : Int) = (at3 : Int) := by rw [hat3]; omega
            have hat3s : at3 ≤ s.size := by rw [hat3]; omega
            have HRN2 : Hid (readN s (k + 1) = some (os ++ [o], at3)) := Lib.hid (by rw [readN_next HRN.out hro, hat3])
            have HOW2 : Hid (∀ q ∈ os ++ [o], q.wf ∧ q.ids.length ≤ 8) := Lib.hid (fun q hq => by
              rcases List.mem_append.1 hq with hq | hq
              · exact HOW.out q hq
              · obtain rfl := List.mem_singleton.1 hq
                exact ⟨hwf, ids_le hok⟩)
            rw [eat3]
            have hneg : ¬ ((at3 : Int) < 0) := Int.not_lt.2 (Int.natCast_nonneg _)
            have HA3 := Lib.hid hat3s
            have V2 := Lib.hid (Y2.out.below hb Y2.out.lt)
            have V4 := Lib.hid (Y4.out.below hb Y4.out.lt)
            have V6 := Lib.hid (Y6.out.below hb Y6.out.lt)
            have OB2 := Lib.hid (OB.out.below hb)
            have HOB := Lib.hid hob
            have LV : Hid (∀ g, (Value.slice A k cp).ownBlock = some g → g < wr.heap.size) := Lib.hid (fun g hg => (OB.out.row.lt g hg).2)
            have LVS : Hid (∀ a ∈ ivs, ∀ g, a.ownBlock = some g → g < wr.heap.size) := Lib.hid OB.out.lts
            have LM : Hid (∀ g, (Value.slice A2 o.ids.length c2).ownBlock = some g → wr.heap.size ≤ g) := Lib.hid (fun g hg => (hob.lt g hg).1)
            have L2 := Lib.hid (HN.out.trans (hb.mono HN.out.size))
            have S2 : Hid (w.heap.size + 4 ≤ w2.heap.size) := Lib.hid (Nat.le_trans HS1.out hb.size)
            have OI : Hid (Obs w2 (w.heap.size + 4) 1 (.slice A2 o.ids.length c2) o.ids.length (o.ids.map vn)) := Lib.hid (hob.mono HS1.out)
            clear hob hb hro hok hle hlen hwf hat3 eat3 hat3s x6 Y2 Y4 Y6 HN HS1 OB HRN HOB
            go_upto_region 18 with ((refine wpl_store_opt rfl (by rfl) (by rfl) (by rfl) ?_))
            obtain ⟨W3, hW3⟩ : ∃ W, W = w2.alloc (.cells (voC o (.slice A2 o.ids.length c2)).toArray 27) := ⟨_, rfl⟩
            rw [← hW3]
            have BX := Lib.hid (Bx.new w2 (voC o (.slice A2 o.ids.length c2)).toArray 27)
            have E3 := Lib.hid ((Below.refl w2.heap.size w2).alloc (Nat.le_refl _) (.cells (voC o (.slice A2 o.ids.length c2)).toArray 27))
            rw [← hW3] at BX E3
            obtain ⟨b13, hb13⟩ : ∃ b, b = w2.heap.size := ⟨_, rfl⟩
            rw [← hb13] at BX ⊢
            have U2 := Lib.hid ((V2.out.below E3.out V2.out.lt).alloc (.cells (voC o (.slice A2 o.ids.length c2)).toArray 27))
            have U4 := Lib.hid ((V4.out.below E3.out V4.out.lt).alloc (.cells (voC o (.slice A2 o.ids.length c2)).toArray 27))
            have U4' := Lib.hid (V4.out.below E3.out V4.out.lt)
            have U6 := Lib.hid ((V6.out.below E3.out V6.out.lt).alloc (.cells (voC o (.slice A2 o.ids.length c2)).toArray 27))
            have E4 := Lib.hid ((Below.refl W3.heap.size W3).alloc (Nat.le_refl _) (.cells (voC o (.slice A2 o.ids.length c2)).toArray 27))
            have OB3 := Lib.hid ((OB2.out.below E3.out).below E4.out)
            have OI3 := Lib.hid ((OI.out.below E3.out).below E4.out)
            have BN := Lib.hid (Bx.new W3 (voC o (.slice A2 o.ids.length c2)).toArray 27)
            have L3 := Lib.hid ((L2.out.trans (E3.out.mono L2.out.size)).alloc (Nat.le_trans L2.out.size E3.out.size) (.cells (voC o (.slice A2 o.ids.length c2)).toArray 27))
            have S3 : Hid (w.heap.size + 4 ≤ (W3.alloc (.cells (voC o (.slice A2 o.ids.length c2)).toArray 27)).heap.size) := Lib.hid (Nat.le_trans (Nat.le_trans S2.out E3.out.size) E4.out.size)
            have x7 : W3.cell? ⟨w.heap.size + 1, 7, none⟩ = some (.slice A k cp) := U4'.out.cell 7
            clear hW3 hb13 E3 V2 V4 V6 OB2 OI L2 S2
            have hk1 : k ≤ 1048576 := by omega
            go_upto_region 21 with (first | (refine wpl_opt rfl (by rfl) (by rfl) BX.out ?_) | (refine wpl_build1 rfl (by rfl) (by rfl) ?_) | (at_builtin; refine wpl_append_opt _ rfl _ _ rfl (w.heap.size + 4) _ k os ivs rfl OB3.out AP.out o A2 _ c2 _ rfl BN.out OI3.out wr.heap.size LM.out LV.out LVS.out hk1 S3.out ?_; intro v4 w4 ho4 ha4 hb4; obtain ⟨A4, c4, rfl, _⟩ := ho4.rd.shape; have OB4 := Lib.hid ho4; have AP4 := Lib.hid ha4; have HB4 := Lib.hid hb4; have y7 : w4.cell? ⟨w.heap.size + 1, 7, none⟩ = some (.slice A k cp) := (U4.out.below hb4 (by omega)).cell 7; have f7 := (U4.out.below hb4 (by omega)).frozen 7; clear ho4 ha4 hb4))
            have T2 := Lib.hid (U2.out.below HB4.out (by omega))
            have T4 := Lib.hid (U4.out.below HB4.out (by omega))
            have T6 := Lib.hid (U6.out.below HB4.out (by omega))
            have L4 := Lib.hid (L3.out.trans (HB4.out.mono (by omega)))
            have S4 : Hid (w.heap.size + 4 ≤ w4.heap.size) := Lib.hid (Nat.le_trans S3.out HB4.out.size)
            clear x7 U2 U4 U4' U6 L3 S3 OB3 OI3 BN BX E4
            obtain ⟨W5, hW5⟩ : ∃ W, W = w4.setCell ⟨w.heap.size + 1, 7, none⟩ (.slice A4 (k + 1) c4) := ⟨_, rfl⟩
            rw [← hW5]
            have R4 : Hid (Blk W5 (w.heap.size + 1) 37 (vxC (segOf s [] ⟨#[]⟩) (.slice A4 (k + 1) c4))) := Lib.hid (by rw [hW5]; exact T4.out.set_ 7 _)
            have R2 : Hid (Blk W5 w.heap.size 37 (vxC noX (.slice none 0 0))) := Lib.hid (by rw [hW5]; exact T2.out.far (by dsimp only; omega) _)
            have R6 : Hid (Blk W5 (w.heap.size + 1 + 1) 3 [.int .i64 (n8 : Int)]) := Lib.hid (by rw [hW5]; exact T6.out.far (by dsimp only; omega) _)
            have OB5 : Hid (ObO W5 (w.heap.size + 4) (.slice A4 (k + 1) c4) (k + 1) (os ++ [o]) (ivs ++ [.slice A2 o.ids.length c2])) := Lib.hid (by rw [hW5]; exact OB4.out.far (by dsimp only; omega) _)
            have L5 : Hid (Below w.heap.size w W5) := Lib.hid (by rw [hW5]; exact L4.out.setCell (by dsimp only; omega) _)
            have S5 : Hid (w.heap.size + 4 ≤ W5.heap.size) := Lib.hid (by rw [hW5]; simp [World.setCell]; exact S4.out)
            clear hW5 y7 f7 T2 T4 T6 OB4 L4 S4
            go_wp2
            go_roundw
            case rel => exact ⟨k + 1, at3, c4, A4, _, _, by omega, by go_num, rfl, HRN2, HA3, HOW2, OB5, AP4, R2, R4, R6, S5, L5⟩
            case measure => (simp [intOf]; try omega)
        · obtain rfl : k = n8 := by omega
          have HLO : Hid (os.length = k) := Lib.hid OB.out.lo
          obtain ⟨nn, hnn⟩ : ∃ n, n = numAtN s (at2 : Int) 2 := ⟨_, rfl⟩
          obtain ⟨nb, hnb⟩ : ∃ b, b = numAtB s (at2 : Int) 2 := ⟨_, rfl⟩
          have hnnl : nn < 281474976710656 := by rw [hnn]; exact numAtN_lt s _ _
          have HNN := Lib.hid hnn
          have HNB := Lib.hid hnb
          have HRX : Hid (r = if tailB s at2 = true ∧ segL (segOf s os (textAtS s (at2 + 2 : Nat) nn)) = s.data.toList then some (segOf s os (textAtS s (at2 + 2 : Nat) nn)) else none) := Lib.hid (by rw [HRR.out, HRN.out, hnn])
          clear hnn hnb
          go_wp2_with fail
          refine (numAt_i s (at2 : Int) 2 _ hs63).mono ?_
          rw [← HNN.out, ← HNB.out]
          rintro e w2 ⟨rfl, hb⟩
          have V2 := Lib.hid (Y2.out.below hb Y2.out.lt)
          have V4 := Lib.hid (Y4.out.below hb Y4.out.lt)
          have OB2 := Lib.hid (OB.out.below hb)
          have L2 := Lib.hid (HN.out.trans (hb.mono HN.out.size))
          have S2 : Hid (w.heap.size + 4 ≤ w2.heap.size) := Lib.hid (Nat.le_trans HS1.out hb.size)
          clear hb Y2 Y4 Y6 OB HN HS1 x6
          obtain ⟨d, hd⟩ : ∃ d, d = textAtS s ((at2 : Int) + 2) (nn : Int) := ⟨_, rfl⟩
          obtain ⟨tb, htb⟩ : ∃ b, b = textAtB s ((at2 : Int) + 2) (nn : Int) := ⟨_, rfl⟩
          have hds : d.size ≤ 9223372036854775807 := by rw [hd]; have := textAtS_size s ((at2 : Int) + 2) (nn : Int) nn rfl; omega
          have HTAIL : Hid (tailB s at2 = (nb && tb)) := Lib.hid (by
            unfold tailB
            rw [HNB.out, htb, ← HNN.out, show ((at2 + 2 : Nat) : Int) = (at2 : Int) + 2 by omega])
          have HRY : Hid (r = if tailB s at2 = true ∧ segL (segOf s os d) = s.data.toList then some (segOf s os d) else none) := Lib.hid (by
            rw [HRX.out, hd, show ((at2 + 2 : Nat) : Int) = (at2 : Int) + 2 by omega])
          go_wp2_with fail
          refine (textAt_i s ((at2 : Int) + 2) (nn : Int) _ hs63).mono ?_
          rw [← hd, ← htb]
          rintro e w3 ⟨rfl, rfl⟩
          clear hd htb
          have y8 : w2.cell? ⟨w.heap.size + 1, 8, none⟩ = some (.string ⟨#[]⟩) := V4.out.cell 8
          have f8 := V4.out.frozen 8
          go_upto_region 25 with (fail)
          obtain ⟨W3, hW3⟩ : ∃ W, W = w2.setCell ⟨w.heap.size + 1, 8, none⟩ (.string d) := ⟨_, rfl⟩
          rw [← hW3]
          obtain ⟨X, hX⟩ : ∃ X, X = segOf s os d := ⟨_, rfl⟩
          have U4 : Hid (Blk W3 (w.heap.size + 1) 37 (vxC X (.slice A k cp))) := Lib.hid (by rw [hW3, hX]; exact V4.out.set_ 8 _)
          have U2 : Hid (Blk W3 w.heap.size 37 (vxC noX (.slice none 0 0))) := Lib.hid (by rw [hW3]; exact V2.out.far (by dsimp only; omega) _)
          have OB3 : Hid (ObO W3 (w.heap.size + 4) (.slice A k cp) k X.ops ivs) := Lib.hid (by rw [hW3, hX]; exact OB2.out.far (by dsimp only; omega) _)
          have UL : Hid (Below w.heap.size w W3) := Lib.hid (by rw [hW3]; exact L2.out.setCell (by dsimp only; omega) _)
          have HXO : Hid (X.ops = os) := Lib.hid (by rw [hX]; rfl)
          have XWF : Hid X.wf := Lib.hid (by
            rw [hX]
            refine ⟨⟨?_, ?_, ?_, ?_, ?_, ?_, ?_⟩, by show d.size ≤ maxLen; unfold maxLen; omega, fun o ho => (HOW.out o ho).1⟩ <;> exact i64R_nat (Nat.le_trans (Nat.le_of_lt (numAtN_lt s _ _)) (by decide)))
          have XID : Hid (∀ o ∈ X.ops, o.ids.length ≤ 8) := Lib.hid (fun o ho => (HOW.out o (by rw [← HXO.out]; exact ho)).2)
          rw [← hX] at HRY
          clear hW3 hX V2 V4 OB2 L2 y8 f8
          cases nb
          case false =>
            have HNo : Hid (r = none) := Lib.hid (by rw [HRY.out, if_neg]; rw [HTAIL.out]; simp)
            go_wp2_with (refine wpl_store_segM (q := noX) (A := none) (n := 0) (c := 0) rfl (by rfl) (by rfl) (by rfl) U2.out rfl ?_)
            refine bodyPost_ret (results_seg2 rfl (by rfl) (by rfl) (Bx.setCells (vs := vxC noX (.slice none 0 0)) U2.out rfl)) rfl ?_
            rw [HNo.out]
            exact seg_no UL.out
          cases tb
          case false =>
            have HNo : Hid (r = none) := Lib.hid (by rw [HRY.out, if_neg]; rw [HTAIL.out]; simp)
            go_wp2_with (refine wpl_store_segM (q := noX) (A := none) (n := 0) (c := 0) rfl (by rfl) (by rfl) (by rfl) U2.out rfl ?_)
            refine bodyPost_ret (results_seg2 rfl (by rfl) (by rfl) (Bx.setCells (vs := vxC noX (.slice none 0 0)) U2.out rfl)) rfl ?_
            rw [HNo.out]
            exact seg_no UL.out
          obtain ⟨R, hR⟩ : ∃ R, R = str (segL X) := ⟨_, rfl⟩
          have HRS := Lib.hid hR
          clear hR
          go_wp2_with (refine wpl_segG (by simp [Region.wanted, yielded, Act.put]) (by rfl) (by rfl) (Bx.of_blk U4.out) ?_)
          refine (segText_i X A k cp ivs W3 OB3.out.rd XWF.out (fun o ho => Nat.le_trans (XID.out o ho) (by decide))).mono ?_
          rw [← HRS.out]
          rintro e W4 ⟨rfl, hb⟩
          have OB4 := Lib.hid (OB3.out.below hb)
          have T4 := Lib.hid (U4.out.below hb U4.out.lt)
          have T2 := Lib.hid (U2.out.below hb U2.out.lt)
          have TL := Lib.hid (UL.out.trans (hb.mono UL.out.size))
          clear hb OB3 U4 U2 UL
          have U2 := T2
          have UL := TL
          by_cases ce : R.data.toList = s.data.toList
          · have d1 : (R.toList == s.toList) = true := by rw [ByteArray.toList_eq, ByteArray.toList_eq]; simp [ce]
            have d2 : (R.toList != s.toList) = false := by rw [bne, d1]; rfl
            have HY : Hid (r = some X) := Lib.hid (by rw [HRY.out, if_pos]; exact ⟨by rw [HTAIL.out]; rfl, by rw [← ce, HRS.out, str_toList]⟩)
            clear ce
            go_wp2_with (first | (refine wpl_segI rfl (by rfl) (by rfl) (Bx.of_blk T4.out) ?_) | (refine wpl_store_segM (q := X) rfl (by rfl) (by rfl) (by rfl) T2.out rfl ?_))
            refine bodyPost_ret (results_seg2 rfl (by rfl) (by rfl) (Bx.setCells (vs := vxC X (.slice A k cp)) T2.out rfl)) rfl ?_
            rw [HY.out]
            refine ⟨.slice A k cp, ivs, rfl, ?_, AP.out, XWF.out, XID.out, Below.setCells' TL.out (Nat.le_refl _) _ _⟩
            have h1 := OB4.out
            have h2 : X.ops.length = k := by rw [HXO.out]; exact HLO.out
            rw [h2]
            exact ⟨h1.lo, h1.li, (h1.row.farS (by omega) _ _).mono (by omega), fun i p c hp hc => ((h1.ids i p c hp hc).farS (by omega) _ _).mono (by omega)⟩
          · have d1 : (R.toList == s.toList) = false := by rw [ByteArray.toList_eq, ByteArray.toList_eq]; exact beq_eq_false_iff_ne.2 ce
            have d2 : (R.toList != s.toList) = true := by rw [bne, d1]; rfl
            have HNo : Hid (r = none) := Lib.hid (by rw [HRY.out, if_neg]; intro h; exact ce (by rw [HRS.out, str_toList]; exact h.2))
            clear ce
            go_wp2_with (refine wpl_store_segM (q := noX) (A := none) (n := 0) (c := 0) rfl (by rfl) (by rfl) (by rfl) U2.out rfl ?_)
            refine bodyPost_ret (results_seg2 rfl (by rfl) (by rfl) (Bx.setCells (vs := vxC noX (.slice none 0 0)) U2.out rfl)) rfl ?_
            rw [HNo.out]
            exact seg_no UL.out
end Go.Proofs.Ytkgbkgonlopciaa
