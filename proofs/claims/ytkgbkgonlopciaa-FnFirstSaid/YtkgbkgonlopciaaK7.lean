/- Words for memory, seventh part: append of a slice that is only read. -/
import Derived.Test.YtkgbkgonlopciaaK2
import Derived.Test.YtkgbkgonlopciaaK4
namespace Go.Proofs.Ytkgbkgonlopciaa
open Go.RowKit
set_option linter.unusedVariables false
set_option linter.unusedSimpArgs false
theorem run_append_rd {P : Program} (w : World) (B : Nat) (t ty e : TypeId) (i : TypeInfo) (z : Value) (size bytes : Nat) (ht : P.underlying t = some (.slice e)) (hi : P.info? e = some i) (hz : i.zero = some z)
    (hsize : i.size = size) (hby : i.bytes = bytes) (hzs : z.cells.size = size) (hsz : 0 < size) (v : Value) (n : Nat) (xs : List Value) (h : Obs w B size v n xs) (v2 : Value) (m : Nat) (ys : List Value) (h2 : Rd w size v2 m ys)
    (h1 : ∀ (u : Value), u ∈ ys → u.oneCell' = true) (h63 : n + m ≤ maxLen) (hbytes : (n + m) * bytes ≤ 140737488355328) (hbase : B ≤ w.heap.size) :
    ∃ v' w', Sem.run P (Builtin.append_ #[t, t] ty #[v, v2]) w = .ok v' w' ∧ Obs w' B size v' (n + m) (xs ++ ys) ∧ Below B w w' ∧ w.grownBy w' v.ownBlock := by
  rcases h2.2 with ⟨A, cap, rfl, rfl⟩ | ⟨b, off, cap, rfl, _, _, _, hx⟩
  · have hys : ys = [] := List.eq_nil_of_length_eq_zero (by simpa using h2.1)
    subst hys
    refine ⟨v, w, ?_, by simpa using h, Below.refl _ _, World.grownBy.refl w _⟩
    rcases h.2 with ⟨rfl, rfl⟩ | ⟨g, c, rfl, _, _, hnc, _⟩
    · cases A <;> simp [Builtin.append_, run_underlying ht, sizeOf, typeInfo, hi, Builtin.lenOf, Builtin.firstCells, loadCells, loadCellsFrom, storeCells]
    · cases A <;> simp [Builtin.append_, run_underlying ht, sizeOf, typeInfo, hi, Builtin.lenOf, Builtin.firstCells, hnc, loadCells, loadCellsFrom, storeCells]
  · exact run_append_obs (P := P) w B t ty e i z size bytes ht hi hz hsize hby hzs hsz v n xs h ⟨b, off, none⟩ m cap ys h2.1 (fun j u hu => by
      have := hx j u hu
      unfold Addr.add
      split <;> simp_all) h1 h63 hbytes hbase
theorem wpList_append_rd {P : Program} (w : World) {ops : Array Oper} {rest : List Oper} {o : Oper} {a : Act} {Q : Exit → Act → World → Prop} (hgd : o.guard = none) (s x : Operand) (t : TypeId)
    (ho : o.op = Op.call { callee := Callee.builtin Builtin.append, args := #[s, x], argTypes := #[t, t] }) (B : Nat) (e : TypeId) (i : TypeInfo) (z : Value) (size bytes : Nat)
    (ht : P.underlying t = some (.slice e)) (hi : P.info? e = some i) (hz : i.zero = some z) (hsize : i.size = size) (hby : i.bytes = bytes) (hzs : z.cells.size = size) (hsz : 0 < size)
    (v : Value) (n : Nat) (xs : List Value) (hs : a.eval s = v) (h : Obs w B size v n xs) (v2 : Value) (m : Nat) (ys : List Value) (hx : a.eval x = v2) (h2 : Rd w size v2 m ys)
    (h1 : ∀ (u : Value), u ∈ ys → u.oneCell' = true) (h63 : n + m ≤ maxLen) (hbytes : (n + m) * bytes ≤ 140737488355328) (hbase : B ≤ w.heap.size)
    (hK : ∀ (v' : Value) (w' : World), Obs w' B size v' (n + m) (xs ++ ys) → Below B w w' → w.grownBy w' v.ownBlock → wpList P ops Q rest (a.put o.dst v') w') : wpList P ops Q (o :: rest) a w :=
  wpList_plain hgd fun _ hK2 => by
    obtain ⟨v', w', hr, h3, h4, h5⟩ := run_append_rd (P := P) w B t o.type e i z size bytes ht hi hz hsize hby hzs hsz v n xs h v2 m ys h2 h1 h63 hbytes hbase
    unfold Oper.wp execOp
    simp only [ho, resolve, invoke, builtin, Sem.run_bind, Sem.run_pure, Result.andThen_ok, List.map_toArray, List.map_cons, List.map_nil, hs, hx, hr]
    exact hK2 _ _ (hK v' w' h3 h4 h5)
end Go.Proofs.Ytkgbkgonlopciaa
