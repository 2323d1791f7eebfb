/- DevNil: the row, proved. -/
import Derived.Test.YtaaoabfmelpcpaaRows
import Derived.Test.YtaaoabfmelpcpaaDevY
import Derived.ProofKit
import Derived.SizedLaws
import Derived.Deep.Grids
import Derived.Lib.SmallJoins
namespace Go.Proofs.Ytaaoabfmelpcpaa
open Go.ChangeShapes Go.WideShapes Go.ChangeAt Go.RowKit Go.Joins Go.Deep Go.Mo

theorem Try.own : ownKnob Try.prog.godebug = none := by kernel_rfl
theorem Try.laidOut : laidOutB Try.prog = true := by kernel_rfl
theorem Try.cells36' : Try.prog.cellsOf 36 = 4 := by kernel_rfl
theorem Try.cells4' : Try.prog.cellsOf 4 = 1 := by kernel_rfl
theorem Try.bytes4' : Try.prog.bytesOf 4 = 1 := by kernel_rfl

theorem Try.types36 : Try.prog.cellTypes Try.prog.depth 36 = some [3, 3, 3, 34] := by kernel_rfl

theorem has_of_row {W : World} {base : Nat} {x y z c : Value} {ad : Addr} {len cap : Nat} (h : Value.okWide Try.prog W .any base 36 (.agg #[x, y, z, c])) (hc : c = .slice (some ad) len cap) : ad.spot = none ∧ ad.block < W.heap.size := by
  subst hc
  simp only [Value.okWide, Try.underlying36] at h
  obtain ⟨cs, e, _, ts, h1, _, h3⟩ := h
  rw [Try.types36] at h1
  cases h1
  cases e
  obtain ⟨u, hu, hx⟩ := h3 3 (.slice (some ad) len cap) rfl
  simp at hu
  subst hu
  simp only [Cell.okWide, Try.underlying34, Cell.ok] at hx
  obtain ⟨_, _, _, hs, row, cells, hsh, _⟩ := hx
  refine ⟨hs, ?_⟩
  apply Classical.byContradiction
  intro hn
  have : W.heap[ad.block]? = none := by simp; omega
  simp [World.shape?, this] at hsh

set_option maxRecDepth 100000 in
theorem devNil_lifted (os : Os) (started : os.Started) (H : Type) (enc : TypeId × Value → H) :
    ReturnsInHanded {} Try.checked os 4 .any (Rows.devNilSpec.pre6 enc Try.prog Try.f4 Rows.devNilRow.domain false) (Rows.devNilSpec.post enc Try.prog Try.f4 false true false false) := by
  refine returnsInHanded_of_change_sized (C := Try.checked) Try.own started (by kernel_rfl) Try.func4
    (ChangeSpec.witness6 (enc := enc) (C := Try.checked) false ⟨#[], #[.agg #[.int .i64 0, .int .i64 0, .int .i64 0, .slice none 0 0]], []⟩ 8 (by kernel_rfl) (by kernel_rfl) (by kernel_rfl) (by kernel_rfl)) ?_
  intro W base args ds gs before hval0 hW _ hsz0 _
  have hsz : (DataW.weightsEach Try.prog (Try.f4.params.toList ++ Rows.devNilSpec.plain.varTypes Try.prog) (ds ++ gs)).all (· ≤ reachBytes) = true := hsz0
  clear hsz0
  have hval : ∀ (j : Nat) t v, Try.f4.params[j]? = some t → args[j]? = some v → Value.okWide Try.prog W .any base t v := hval0
  have hW' := hW
  obtain ⟨p, q, hA0, hV, rfl, _, _⟩ := hW
  have hA : DataW.TrodAll enc Try.prog W 0 (fun _ => true) true Try.f4.params.toList args.toList ds p := hA0
  rw [Try.params4] at hA hval hsz
  obtain ⟨v0, d0, rfl, rfl, h0⟩ := trodAll_one hA
  obtain ⟨rfl, rfl⟩ := trodVars_none hV
  have h0k := h0
  have hlt : ∀ x ∈ p, x.block < W.heap.size := fun x hx => by simpa using hW'.lt x (List.mem_append_left _ hx)
  obtain ⟨c0, c1, c2, c3, y0, y1, y2, y3, m, rfl, hd, hp, g0, g1, g2, g3⟩ := open_agg4 Try.underlying36 (by kernel_rfl) Try.cells36' (hval 0 36 v0 rfl rfl) h0
  obtain ⟨a, e0, rfl, wa⟩ := DataW.trod_int Try.underlying3 g0
  obtain ⟨b, e1, rfl, wb⟩ := DataW.trod_int Try.underlying3 g1
  obtain ⟨n, e2, rfl, wn⟩ := DataW.trod_int Try.underlying3 g2
  simp at e0 e1 e2
  subst e0 e1 e2
  obtain ⟨ad, len, cap, rfl, hBls, hsl⟩ : ∃ ad len cap, c3 = .slice ad len cap ∧ (∃ bits : List Bool, bits.length = len ∧ Bls W (.slice ad len cap) bits) ∧ (len = 0 ∨ ∃ el sp, y3.1 = .slice el sp ∧ el.length = len) := by
    rcases open_bools Try.underlying34 Try.underlying4 Try.cells4' g3 with ⟨hcs, hx⟩ | ⟨ad, len, cap, B, hcs, hb, hl, hm, hx, hcell⟩
    · simp at hcs
      exact ⟨none, 0, 0, hcs, ⟨[], rfl, none, 0, rfl, .inl ⟨rfl, rfl⟩⟩, .inl rfl⟩
    · simp at hcs
      have hhas := has_of_row (hval 0 36 _ rfl rfl) hcs
      obtain ⟨b0, o0, s0⟩ := ad
      obtain ⟨rfl, hb0⟩ := hhas
      refine ⟨some ⟨b0, o0, none⟩, len, cap, hcs, ⟨(List.range len).map B, by simp, ⟨_, cap, by simp, .inr ⟨b0, o0, rfl, hb0, fun j x hx => ?_⟩⟩⟩, .inr ⟨_, _, by rw [hx]; rfl, by simp⟩⟩
      have hj : j < len := by have := (List.getElem?_eq_some_iff.1 hx).1; simpa using this
      have := hcell j (by omega)
      simp [hj] at hx
      subst hx
      have e : (⟨b0, o0, none⟩ : Addr).add j = ⟨b0, o0 + j, none⟩ := by
        by_cases h : j = 0
        · subst h; simp [Addr.add]
        · simp [Addr.add, h]
      rwa [e] at this
  obtain ⟨bits, rfl, hbl⟩ := hBls
  have hreach : bits.length ≤ 140737488351232 := by
    rcases hsl with h | ⟨el, sp, h, hl⟩
    · omega
    · have := of_decide_eq_true (List.all_eq_true.1 hsz _ (DataW.weights_mem_each (j := 0) (t := 36) rfl (show ([d0] ++ [] : List (DataW H))[0]? = some d0 from rfl) ((el.length + sp.length) * Try.prog.bytesOf 4) (by
        rw [hd, h]
        simp [DataW.weights, Try.underlying36, DataW.weightsEach, Try.underlying34])))
      rw [Try.bytes4'] at this
      simp only [reachBytes] at this
      omega
  have hwn : n ≤ 9223372036854775807 := by
    have h2 : IntKind.i64.max = 9223372036854775807 := rfl
    simp only [Lit.wf, Bool.and_eq_true, decide_eq_true_eq] at wn
    omega
  refine (devnil_ok W ⟨a, b, n, bits⟩ hwn ad cap hbl hreach).mono fun e W' ⟨he, hmod⟩ => ?_
  subst he
  have hbelow := hmod.below
  refine ⟨_, rfl, _, _, _, [], p, [], hW', trodAll_mk1 (shut_bool Try.underlying4 true), ?_, rfl, hbelow.frame _, fun h => by cases h⟩
  exact trodAll_mk1 (Below.trod Try.laidOut (by kernel_rfl) (of_decide_eq_true (by kernel_rfl)) h0k hbelow hlt)

theorem devNil_holds : Rows.DevNilSaid :=
  OpenClaim.holds_of_wide 4 Try.f4 rfl rfl rfl rfl rfl rfl rfl ⟨rfl, rfl, rfl, rfl, rfl⟩ rfl rfl rfl rfl rfl (by kernel_rfl) Try.func4 (by kernel_rfl)
    (of_decide_eq_true (by kernel_rfl)) (by unfold Func.isWrapper; rw [if_neg (by decide +kernel)]; exact ⟨rfl, rfl⟩)
    (fun os started H enc _ => devNil_lifted os started H enc)

#print axioms devNil_holds
end Go.Proofs.Ytaaoabfmelpcpaa
