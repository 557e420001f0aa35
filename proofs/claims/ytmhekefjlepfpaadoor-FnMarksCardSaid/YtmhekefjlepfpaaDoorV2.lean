/- The rounds of a block over lanes, for the kernel to reckon. -/
import Derived.Test.YtmhekefjlepfpaaDoorV1
namespace Go.Proofs.YtmhekefjlepfpaaDoor
set_option linter.unusedVariables false
set_option linter.unusedSimpArgs false

/-- eight numbers -/
structure P8 where
  a : Nat
  b : Nat
  c : Nat
  d : Nat
  e : Nat
  f : Nat
  g : Nat
  h : Nat
/-- the number first, then the rest -/
noncomputable def forceN {α : Type} (x : Nat) (k : α) : α := Bool.rec k k (Nat.ble 0 x)
theorem forceN_eq {α : Type} (x : Nat) (k : α) : forceN x k = k := by unfold forceN; cases Nat.ble 0 x <;> rfl
def pT1 (M ones c w e f g h : Nat) : Nat := Nat.add (Nat.add (Nat.add h (pB1 M e)) (pCh e f g)) (Nat.add w (Nat.mul ones c))
def pA (M t a b c : Nat) : Nat := Nat.land (Nat.add t (Nat.add (pB0 M a) (pMaj a b c))) M
def pE (M t d : Nat) : Nat := Nat.land (Nat.add d t) M
def pW (M w0 w1 w9 w14 : Nat) : Nat := Nat.land (Nat.add (Nat.add w0 w9) (Nat.add (pS0 M w1) (pS1 M w14))) M
noncomputable def pRounds (M ones Mw : Nat) (lift : Nat → Nat) (ks : List Nat) : Nat → Nat → Nat → Nat → Nat → Nat → Nat → Nat → Nat → Nat → Nat → Nat → Nat → Nat → Nat → Nat → Nat → Nat → Nat → Nat → Nat → Nat → Nat → Nat → P8 :=
  List.rec (motive := fun _ => Nat → Nat → Nat → Nat → Nat → Nat → Nat → Nat → Nat → Nat → Nat → Nat → Nat → Nat → Nat → Nat → Nat → Nat → Nat → Nat → Nat → Nat → Nat → Nat → P8) (fun a b c d e f g h _ _ _ _ _ _ _ _ _ _ _ _ _ _ _ _ => P8.mk a b c d e f g h)
    (fun k _ ih a b c d e f g h w0 w1 w2 w3 w4 w5 w6 w7 w8 w9 w10 w11 w12 w13 w14 w15 =>
      forceN (pE M (pT1 M ones k (lift w0) e f g h) d) (forceN (pA M (pT1 M ones k (lift w0) e f g h) a b c)
        (ih (pA M (pT1 M ones k (lift w0) e f g h) a b c) a b c (pE M (pT1 M ones k (lift w0) e f g h) d) e f g w1 w2 w3 w4 w5 w6 w7 w8 w9 w10 w11 w12 w13 w14 w15 (pW Mw w0 w1 w9 w14)))) ks
theorem pRounds_cons (M ones Mw : Nat) (lift : Nat → Nat) (k : Nat) (ks : List Nat) (a b c d e f g h w0 w1 w2 w3 w4 w5 w6 w7 w8 w9 w10 w11 w12 w13 w14 w15 : Nat) :
    pRounds M ones Mw lift (k :: ks) a b c d e f g h w0 w1 w2 w3 w4 w5 w6 w7 w8 w9 w10 w11 w12 w13 w14 w15 = pRounds M ones Mw lift ks (pA M (pT1 M ones k (lift w0) e f g h) a b c) a b c (pE M (pT1 M ones k (lift w0) e f g h) d) e f g w1 w2 w3 w4 w5 w6 w7 w8 w9 w10 w11 w12 w13 w14 w15 (pW Mw w0 w1 w9 w14) :=
  by
  show forceN (pE M (pT1 M ones k (lift w0) e f g h) d) (forceN (pA M (pT1 M ones k (lift w0) e f g h) a b c) (pRounds M ones Mw lift ks (pA M (pT1 M ones k (lift w0) e f g h) a b c) a b c (pE M (pT1 M ones k (lift w0) e f g h) d) e f g w1 w2 w3 w4 w5 w6 w7 w8 w9 w10 w11 w12 w13 w14 w15 (pW Mw w0 w1 w9 w14))) = _
  rw [forceN_eq, forceN_eq]
/-- the word that follows -/
def wnx (w0 w1 w9 w14 : Nat) : Nat := (((w0 + w9) % 4294967296 + sg0 w1) % 4294967296 + sg1 w14) % 4294967296
/-- a row of words that follow -/
def Sched (W : Nat → Nat) : Prop := ∀ j, W j < 4294967296 ∧ W (j + 16) = wnx (W j) (W (j + 1)) (W (j + 9)) (W (j + 14))
def rRun (W : Nat → Nat) : List Nat → Nat → St → St
  | [], _, s => s
  | c :: ks, k, s => rRun W ks (k + 1) (sround c (W k) s)
/-- eight rows of lanes -/
def P8s (n : Nat) (S : Nat → St) : P8 := P8.mk (pack (fun i => (S i).a) n) (pack (fun i => (S i).b) n) (pack (fun i => (S i).c) n) (pack (fun i => (S i).d) n) (pack (fun i => (S i).e) n) (pack (fun i => (S i).f) n) (pack (fun i => (S i).g) n) (pack (fun i => (S i).h) n)
/-- one in each lane -/
def onesN (n : Nat) : Nat := pack (fun _ => 1) n
theorem ones_mul (n c : Nat) : onesN n * c = pack (fun _ => c) n := by rw [onesN, pack_mul]; exact pack_congr fun i _ => Nat.one_mul c
theorem pW_eq {f0 f1 f9 f14 : Nat → Nat} (h0 : Lt f0 4294967296) (h1 : Lt f1 4294967296) (h9 : Lt f9 4294967296) (h14 : Lt f14 4294967296) (m : Nat) :
    pW (maskN m) (pack f0 m) (pack f1 m) (pack f9 m) (pack f14 m) = pack (fun i => wnx (f0 i) (f1 i) (f9 i) (f14 i)) m := by
  show (pack f0 m + pack f9 m + (pS0 (maskN m) (pack f1 m) + pS1 (maskN m) (pack f14 m))) &&& maskN m = _
  rw [pS0_eq h1, pS1_eq h14, pack_add, pack_add, pack_add, pack_mask (fun i => ?_)]
  · refine pack_congr fun i _ => ?_
    unfold wnx
    omega
  · have a := h0 i; have b := h9 i; have c := sg0_lt (h1 i); have d := sg1_lt (h14 i)
    try dsimp only
    omega
section
variable {n : Nat} {S : Nat → St} {w : Nat → Nat}
theorem pT1_eq (hS : ∀ i, (S i).ok) (hw : Lt w 4294967296) (c : Nat) :
    pT1 (maskN n) (onesN n) c (pack w n) (pack (fun i => (S i).e) n) (pack (fun i => (S i).f) n) (pack (fun i => (S i).g) n) (pack (fun i => (S i).h) n) = pack (fun i => (S i).h + big1 (S i).e + chF (S i).e (S i).f (S i).g + (w i + c)) n := by
  show pack _ n + pB1 (maskN n) (pack _ n) + pCh (pack _ n) (pack _ n) (pack _ n) + (pack w n + onesN n * c) = _
  rw [pB1_eq (fun i => (hS i).2.2.2.2.1), pCh_eq (fun i => (hS i).2.2.2.2.1) (fun i => (hS i).2.2.2.2.2.1) (fun i => (hS i).2.2.2.2.2.2.1), ones_mul, pack_add, pack_add, pack_add, pack_add]
theorem t_lt (hS : ∀ i, (S i).ok) (hw : Lt w 4294967296) {c : Nat} (hc : c < 4294967296) (i : Nat) : (S i).h + big1 (S i).e + chF (S i).e (S i).f (S i).g + (w i + c) < 30000000000 := by
  have h1 := (hS i).2.2.2.2.2.2.2
  have h2 := big1_lt (hS i).2.2.2.2.1
  have h3 := chF_lt (e := (S i).e) (hS i).2.2.2.2.2.1 (hS i).2.2.2.2.2.2.1
  have h4 := hw i
  omega
theorem pE_eq (hS : ∀ i, (S i).ok) (hw : Lt w 4294967296) {c : Nat} (hc : c < 4294967296) :
    pE (maskN n) (pack (fun i => (S i).h + big1 (S i).e + chF (S i).e (S i).f (S i).g + (w i + c)) n) (pack (fun i => (S i).d) n) = pack (fun i => (sround c (w i) (S i)).e) n := by
  show (pack _ n + pack _ n) &&& maskN n = _
  rw [pack_add, pack_mask (fun i => ?_)]
  · refine pack_congr fun i _ => ?_
    show _ = ((S i).d + xOf c (w i) (S i)) % 4294967296
    unfold xOf
    omega
  · have := t_lt hS hw hc i
    have h1 := (hS i).2.2.2.1
    try dsimp only
    omega
theorem pA_eq (hS : ∀ i, (S i).ok) (hw : Lt w 4294967296) {c : Nat} (hc : c < 4294967296) :
    pA (maskN n) (pack (fun i => (S i).h + big1 (S i).e + chF (S i).e (S i).f (S i).g + (w i + c)) n) (pack (fun i => (S i).a) n) (pack (fun i => (S i).b) n) (pack (fun i => (S i).c) n) = pack (fun i => (sround c (w i) (S i)).a) n := by
  show (pack _ n + (pB0 (maskN n) (pack _ n) + pMaj (pack _ n) (pack _ n) (pack _ n))) &&& maskN n = _
  rw [pB0_eq (fun i => (hS i).1), pMaj_eq (fun i => (hS i).1) (fun i => (hS i).2.1) (fun i => (hS i).2.2.1), pack_add, pack_add, pack_mask (fun i => ?_)]
  · refine pack_congr fun i _ => ?_
    show _ = (xOf c (w i) (S i) + yOf (S i)) % 4294967296
    unfold xOf yOf
    omega
  · have := t_lt hS hw hc i
    have h1 := big0_lt (hS i).1
    have h2 := majF_lt (a := (S i).a) (hS i).2.1 (hS i).2.2.1
    try dsimp only
    omega
end
theorem pRounds_eq {n m : Nat} {lift : Nat → Nat} {σ : Nat → Nat} (hl : ∀ f, Lt f 4294967296 → lift (pack f m) = pack (fun i => f (σ i)) n) {W : Nat → Nat → Nat} (hW : ∀ i, Sched (W i)) :
    ∀ (ks : List Nat) (k : Nat) (S : Nat → St), (∀ c ∈ ks, c < 4294967296) → (∀ i, (S i).ok) →
    pRounds (maskN n) (onesN n) (maskN m) lift ks (pack (fun i => (S i).a) n) (pack (fun i => (S i).b) n) (pack (fun i => (S i).c) n) (pack (fun i => (S i).d) n) (pack (fun i => (S i).e) n) (pack (fun i => (S i).f) n) (pack (fun i => (S i).g) n) (pack (fun i => (S i).h) n)
      (pack (fun i => W i k) m) (pack (fun i => W i (k + 1)) m) (pack (fun i => W i (k + 2)) m) (pack (fun i => W i (k + 3)) m) (pack (fun i => W i (k + 4)) m) (pack (fun i => W i (k + 5)) m) (pack (fun i => W i (k + 6)) m) (pack (fun i => W i (k + 7)) m) (pack (fun i => W i (k + 8)) m) (pack (fun i => W i (k + 9)) m) (pack (fun i => W i (k + 10)) m) (pack (fun i => W i (k + 11)) m) (pack (fun i => W i (k + 12)) m) (pack (fun i => W i (k + 13)) m) (pack (fun i => W i (k + 14)) m) (pack (fun i => W i (k + 15)) m) = P8s n (fun i => rRun (W (σ i)) ks k (S i))
  | [], k, S, _, _ => rfl
  | c :: ks, k, S, hc, hS => by
    have hc0 := hc c List.mem_cons_self
    have hw : Lt (fun i => W (σ i) k) 4294967296 := fun i => (hW (σ i) k).1
    rw [pRounds_cons, hl (fun i => W i k) (fun i => (hW i k).1), pT1_eq (w := fun i => W (σ i) k) hS hw, pE_eq hS hw hc0, pA_eq hS hw hc0,
      pW_eq (fun i => (hW i k).1) (fun i => (hW i (k + 1)).1) (fun i => (hW i (k + 9)).1) (fun i => (hW i (k + 14)).1),
      show pack (fun i => wnx (W i k) (W i (k + 1)) (W i (k + 9)) (W i (k + 14))) m = pack (fun i => W i (k + 1 + 15)) m from pack_congr fun i _ => ((hW i k).2).symm.trans (by rw [show k + 16 = k + 1 + 15 by omega])]
    exact pRounds_eq hl hW ks (k + 1) (fun i => sround c (W (σ i) k) (S i)) (fun x hx => hc x (List.mem_cons_of_mem _ hx)) (fun i => sround_ok (hS i))
/-- two states added -/
noncomputable def pAdd (M : Nat) (s t : P8) : P8 :=
  P8.rec (motive := fun _ => P8) (fun a b c d e f g h =>
    P8.rec (motive := fun _ => P8) (fun a' b' c' d' e' f' g' h' => P8.mk (Nat.land (Nat.add a' a) M) (Nat.land (Nat.add b' b) M) (Nat.land (Nat.add c' c) M) (Nat.land (Nat.add d' d) M) (Nat.land (Nat.add e' e) M) (Nat.land (Nat.add f' f) M) (Nat.land (Nat.add g' g) M) (Nat.land (Nat.add h' h) M)) t) s
/-- a block: the rounds, and the state behind them -/
noncomputable def pComp (M ones Mw : Nat) (lift : Nat → Nat) (ks : List Nat) (s : P8) (w : Nat → Nat) : P8 :=
  P8.rec (motive := fun _ => P8) (fun a b c d e f g h => pAdd M (P8.mk a b c d e f g h) (pRounds M ones Mw lift ks a b c d e f g h (w 0) (w 1) (w 2) (w 3) (w 4) (w 5) (w 6) (w 7) (w 8) (w 9) (w 10) (w 11) (w 12) (w 13) (w 14) (w 15))) s
theorem pSum_eq {f g : Nat → Nat} (hf : Lt f 4294967296) (hg : Lt g 4294967296) (n : Nat) : Nat.land (Nat.add (pack f n) (pack g n)) (maskN n) = pack (fun i => (f i + g i) % 4294967296) n := by
  show (pack f n + pack g n) &&& maskN n = _
  rw [pack_add, pack_mask (fun i => ?_)]
  have := hf i
  have := hg i
  try dsimp only
  omega
theorem rRun_ok (W : Nat → Nat) : ∀ (ks : List Nat) (k : Nat) (s : St), s.ok → (rRun W ks k s).ok
  | [], _, _, h => h
  | c :: ks, k, s, h => rRun_ok W ks (k + 1) _ (sround_ok h)
theorem pComp_eq {n m : Nat} {lift : Nat → Nat} {σ : Nat → Nat} (hl : ∀ f, Lt f 4294967296 → lift (pack f m) = pack (fun i => f (σ i)) n) {W : Nat → Nat → Nat} (hW : ∀ i, Sched (W i))
    {ks : List Nat} (hk : ∀ c ∈ ks, c < 4294967296) {S : Nat → St} (hS : ∀ i, (S i).ok) {w : Nat → Nat} (hw : ∀ j, j < 16 → w j = pack (fun i => W i j) m) :
    pComp (maskN n) (onesN n) (maskN m) lift ks (P8s n S) w = P8s n (fun i => addSt (rRun (W (σ i)) ks 0 (S i)) (S i)) := by
  have h := pRounds_eq hl hW ks 0 S hk hS
  have hr : ∀ i, (rRun (W (σ i)) ks 0 (S i)).ok := fun i => rRun_ok _ _ _ _ (hS i)
  show pAdd (maskN n) (P8s n S) (pRounds (maskN n) (onesN n) (maskN m) lift ks (pack (fun i => (S i).a) n) (pack (fun i => (S i).b) n) (pack (fun i => (S i).c) n) (pack (fun i => (S i).d) n) (pack (fun i => (S i).e) n) (pack (fun i => (S i).f) n) (pack (fun i => (S i).g) n) (pack (fun i => (S i).h) n) (w 0) (w 1) (w 2) (w 3) (w 4) (w 5) (w 6) (w 7) (w 8) (w 9) (w 10) (w 11) (w 12) (w 13) (w 14) (w 15)) = _
  rw [hw 0 (by omega), hw 1 (by omega), hw 2 (by omega), hw 3 (by omega), hw 4 (by omega), hw 5 (by omega), hw 6 (by omega), hw 7 (by omega), hw 8 (by omega), hw 9 (by omega), hw 10 (by omega), hw 11 (by omega), hw 12 (by omega), hw 13 (by omega), hw 14 (by omega), hw 15 (by omega), h]
  unfold P8s pAdd addSt
  dsimp only
  rw [pSum_eq (fun i => (hr i).1) (fun i => (hS i).1), pSum_eq (fun i => (hr i).2.1) (fun i => (hS i).2.1), pSum_eq (fun i => (hr i).2.2.1) (fun i => (hS i).2.2.1), pSum_eq (fun i => (hr i).2.2.2.1) (fun i => (hS i).2.2.2.1),
    pSum_eq (fun i => (hr i).2.2.2.2.1) (fun i => (hS i).2.2.2.2.1), pSum_eq (fun i => (hr i).2.2.2.2.2.1) (fun i => (hS i).2.2.2.2.2.1), pSum_eq (fun i => (hr i).2.2.2.2.2.2.1) (fun i => (hS i).2.2.2.2.2.2.1), pSum_eq (fun i => (hr i).2.2.2.2.2.2.2) (fun i => (hS i).2.2.2.2.2.2.2)]
end Go.Proofs.YtmhekefjlepfpaaDoor
