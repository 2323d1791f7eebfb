/- A slice of deeds out of its reading. -/
import Derived.Test.YtaaoabfmelpcpaaRowA
import Derived.Test.YtaaoabfmelpcpaaQuB
namespace Go.Proofs.Ytaaoabfmelpcpaa
open Go.ChangeShapes Go.WideShapes Go.ChangeAt Go.RowKit Go.Joins Go.Deep Go.Mo

theorem Try.cells3' : Try.prog.cellsOf 3 = 1 := by kernel_rfl
theorem Try.cells34' : Try.prog.cellsOf 34 = 1 := by kernel_rfl

theorem weightsAll_mem {H : Type} {P : Program} {e : TypeId} : ∀ {l : List (DataW H)} {d : DataW H}, d ∈ l → ∀ n ∈ d.weights P e, n ∈ DataW.weightsAll P e l
  | d' :: r, d, hd, n, hn => by
    simp only [DataW.weightsAll, List.mem_append]
    rcases List.mem_cons.1 hd with rfl | h
    · exact Or.inl hn
    · exact Or.inr (weightsAll_mem h n hn)

theorem list_of {α : Type} {P : Nat → α → Prop} : ∀ n, (∀ i, i < n → ∃ x, P i x) → ∃ l : List α, l.length = n ∧ ∀ i x, l[i]? = some x → P i x
  | 0, _ => ⟨[], rfl, fun i x h => by simp at h⟩
  | n + 1, h => by
    obtain ⟨l, hl, hp⟩ := list_of n (fun i hi => h i (by omega))
    obtain ⟨x, hx⟩ := h n (by omega)
    refine ⟨l ++ [x], by simp [hl], fun i y hy => ?_⟩
    rw [List.getElem?_append] at hy
    split at hy
    · exact hp i y hy
    · rw [List.getElem?_singleton] at hy
      split at hy
      · simp at hy
        subst hy
        rename_i h1 h2
        have : i = n := by omega
        subst this
        exact hx
      · simp at hy

section
variable {H : Type} {enc : TypeId × Value → H} {W : World} {base : Nat} {held : Bool}

theorem cells_four {a : Addr} {cs : List Value} (h : W.cells? 0 a 4 = some cs) : ∃ c0 c1 c2 c3, cs = [c0, c1, c2, c3] ∧ W.cell? (a.add 0) = some c0 ∧ W.cell? (a.add 1) = some c1 ∧ W.cell? (a.add 2) = some c2 ∧ W.cell? (a.add 3) = some c3 := by
  simp only [World.cells?, Nat.zero_le, if_true] at h
  rw [show List.range 4 = [0, 1, 2, 3] from rfl] at h
  simp only [List.mapM_cons, List.mapM_nil, Option.bind_eq_bind, Option.bind_eq_some_iff, Option.pure_def, Option.some.injEq] at h
  obtain ⟨c0, h0, _, ⟨c1, h1, _, ⟨c2, h2, _, ⟨c3, h3, _, rfl, rfl⟩, rfl⟩, rfl⟩, rfl⟩ := h
  exact ⟨c0, c1, c2, c3, rfl, h0, h1, h2, h3⟩

/-- One deed, out of its four cells. -/
theorem open_deed {fuel : Nat} {c0 c1 c2 c3 : Value} {x : DataW H × List MemPlace} (h : DataW.trod enc Try.prog W base (fun _ => true) held fuel 36 [c0, c1, c2, c3] = some x) :
    ∃ (d : Deed) (ad : Option Addr) (cap : Nat), c0 = .int .i64 d.what ∧ c1 = .int .i64 d.at_ ∧ c2 = .int .i64 d.n ∧ c3 = .slice ad d.bits.length cap ∧ Bits W (.slice ad d.bits.length cap) d.bits ∧ d.n ≤ 9223372036854775807 ∧
      (d.bits = [] ∨ ∃ z0 z1 z2 el sp, x.1 = .agg [z0, z1, z2, .slice el sp] ∧ el.length = d.bits.length) := by
  obtain ⟨xs, n, _, rfl, _, hl, hf⟩ := DataW.trod_struct Try.underlying36 h
  have g0 : DataW.trod enc Try.prog W base (fun _ => true) held n 3 (([c0, c1, c2, c3].drop 0).take (Try.prog.cellsOf 3)) = xs[0]? := hf 0 _ rfl
  have g1 : DataW.trod enc Try.prog W base (fun _ => true) held n 3 (([c0, c1, c2, c3].drop 1).take (Try.prog.cellsOf 3)) = xs[1]? := hf 1 _ rfl
  have g2 : DataW.trod enc Try.prog W base (fun _ => true) held n 3 (([c0, c1, c2, c3].drop 2).take (Try.prog.cellsOf 3)) = xs[2]? := hf 2 _ rfl
  have g3 : DataW.trod enc Try.prog W base (fun _ => true) held n 34 (([c0, c1, c2, c3].drop 3).take (Try.prog.cellsOf 34)) = xs[3]? := hf 3 _ rfl
  rw [Try.cells3'] at g0 g1 g2
  rw [Try.cells34'] at g3
  simp only [List.drop_zero, List.take_succ_cons, List.take_zero, List.drop_succ_cons] at g0 g1 g2 g3
  match xs, hl with
  | [y0, y1, y2, y3], _ =>
    simp only [List.getElem?_cons_zero, List.getElem?_cons_succ] at g0 g1 g2 g3
    obtain ⟨a, e0, rfl, wa⟩ := DataW.trod_int Try.underlying3 g0
    obtain ⟨b, e1, rfl, wb⟩ := DataW.trod_int Try.underlying3 g1
    obtain ⟨m, e2, rfl, wn⟩ := DataW.trod_int Try.underlying3 g2
    simp at e0 e1 e2
    obtain ⟨ad, cap, bits, rfl, hbl, hsl⟩ := open_bits g3
    refine ⟨⟨a, b, m, bits⟩, ad, cap, e0, e1, e2, rfl, hbl, ?_, ?_⟩
    · have h2 : IntKind.i64.max = 9223372036854775807 := rfl
      simp only [Lit.wf, Bool.and_eq_true, decide_eq_true_eq] at wn
      simp only
      omega
    · rcases hsl with h | ⟨el, sp, h, hl⟩
      · exact .inl h
      · exact .inr ⟨.lit (.int .i64 a), .lit (.int .i64 b), .lit (.int .i64 m), el, sp, by simp [h], hl⟩

theorem open_deeds {fuel : Nat} {v : Value} {y : DataW H × List MemPlace} (h : DataW.trod enc Try.prog W 0 (fun _ => true) held fuel 22 [v] = some y)
    {ts : List TypeId} {ds : List (DataW H)} (hsz : (DataW.weightsEach Try.prog ts ds).all (· ≤ reachBytes) = true) {j : Nat} (ht : ts[j]? = some 22) (hd : ds[j]? = some y.1) : ∃ l : List Deed, Deeds W v l := by
  rcases open_slice Try.underlying22 h with ⟨hcs, hx⟩ | ⟨a, len, cap, m, n, D, Pl, hcs, _, hl, hm, hmm, hx, hel⟩
  · simp at hcs
    exact ⟨[], none, 0, by simpa using hcs, fun i x hx => by simp at hx⟩
  · simp at hcs
    simp only [if_true] at hmm
    subst hmm
    have hP : ∀ i, i < len → ∃ x : Deed, ∃ L off ad cd, a = ⟨L, off, none⟩ ∧ L < W.heap.size ∧
        W.cell? ⟨L, off + i * 4, none⟩ = some (.int .i64 x.what) ∧ W.cell? ⟨L, off + i * 4 + 1, none⟩ = some (.int .i64 x.at_) ∧ W.cell? ⟨L, off + i * 4 + 2, none⟩ = some (.int .i64 x.n) ∧
        W.cell? ⟨L, off + i * 4 + 3, none⟩ = some (.slice ad x.bits.length cd) ∧ Bits W (.slice ad x.bits.length cd) x.bits ∧ x.n ≤ 9223372036854775807 ∧ x.bits.length ≤ 140737488351232 := by
      intro i hi
      obtain ⟨cs', h1, h2⟩ := hel i (by omega)
      rw [Try.cells36'] at h1
      obtain ⟨c0, c1, c2, c3, rfl, k0, k1, k2, k3⟩ := cells_four h1
      obtain ⟨d, ad, cd, rfl, rfl, rfl, rfl, hb, hn, hs⟩ := open_deed h2
      obtain ⟨ct, h10, _⟩ := hel 0 (by omega)
      rw [Try.cells36'] at h10
      obtain ⟨_, _, _, _, _, k00, _⟩ := cells_four h10
      obtain ⟨L, off, spot⟩ := a
      have hspot : spot = none := by
        have := World.cell?_spot k00
        simpa [Addr.add] using this
      subst hspot
      have ea : ∀ q r : Nat, ((⟨L, off, none⟩ : Addr).add q).add r = ⟨L, off + q + r, none⟩ := fun q r => by rw [add0, add0]
      rw [ea] at k0 k1 k2 k3
      refine ⟨d, L, off, ad, cd, rfl, World.block_lt_of_cell? W _ k0, k0, k1, k2, k3, hb, hn, ?_⟩
      rcases hs with q | ⟨z0, z1, z2, el, sp, hD, hll⟩
      · rw [q]; simp
      · have hmem : DataW.agg [z0, z1, z2, .slice el sp] ∈ (List.range len).map D := List.mem_map.2 ⟨i, by simp [hi], hD⟩
        have := of_decide_eq_true (List.all_eq_true.1 hsz _ (DataW.weights_mem_each ht hd ((el.length + sp.length) * Try.prog.bytesOf 4) (by
          rw [hx]
          simp only [DataW.weights, Try.underlying22, List.mem_cons, List.mem_append]
          exact Or.inr (Or.inl (weightsAll_mem hmem _ (by simp [DataW.weights, Try.underlying36, DataW.weightsEach, Try.underlying34]))))))
        rw [Try.bytes4'] at this
        simp only [reachBytes] at this
        omega
    obtain ⟨l, hl1, hl2⟩ := list_of len hP
    refine ⟨l, some a, m, by rw [hl1]; exact hcs, fun i x hx => ?_⟩
    obtain ⟨L, off, ad, cd, rfl, h⟩ := hl2 i x hx
    exact ⟨L, off, ad, cd, rfl, h⟩
end
end Go.Proofs.Ytaaoabfmelpcpaa
