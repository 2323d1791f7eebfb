/- DevKeeps, proved of every input: whatever the number of sectors, the deeds, the turn at which it crashes, and the bits with which it wakes, the function answers true, and leaves its arguments as they were. -/
import Derived.Test.YtaaoabfmelpcpaaRowB
import Derived.Test.YtaaoabfmelpcpaaKpH
namespace Go.Proofs.Ytaaoabfmelpcpaa
open Go.ChangeShapes Go.WideShapes Go.ChangeAt Go.RowKit Go.Joins Go.Deep Go.Mo

theorem okWide_slice_at {W : World} {base : Nat} {t e : TypeId} {v : Value} (ht : Try.prog.underlying t = some (.slice e)) (h : Value.okWide Try.prog W .any base t v) : v = .slice none 0 0 ∨ ∃ b o len cap, v = .slice (some ⟨b, o, none⟩) len cap ∧ b < W.heap.size := by
  simp only [Value.okWide, ht, Cell.okWide, Cell.ok] at h
  cases v <;> simp_all
  rename_i a len cap
  cases a with
  | none =>
    cases len <;> cases cap <;> simp_all
  | some ad =>
    obtain ⟨_, _, _, hs, row, cells, hsh, _⟩ := h
    obtain ⟨b, o, s⟩ := ad
    simp only at hs hsh
    subst hs
    have hlt : b < W.heap.size := by
      unfold World.shape? at hsh
      split at hsh
      · rename_i hq; exact ltB hq
      · cases hsh
    exact .inr ⟨b, ⟨o, rfl⟩, hlt⟩

theorem bls_of_bits {W : World} {base : Nat} {ad : Option Addr} {cap : Nat} {bits : List Bool} (h : Value.okWide Try.prog W .any base 34 (.slice ad bits.length cap)) (hb : Bits W (.slice ad bits.length cap) bits) : Bls W (.slice ad bits.length cap) bits := by
  obtain ⟨a, c, hv, hc⟩ := hb
  cases hv
  rcases okWide_slice_at Try.underlying34 h with e | ⟨b, o, len, cap', e, hlt⟩
  · have hz : bits = [] := by
      simp at e
      exact e.2.1
    subst hz
    simp at e
    exact ⟨none, cap, by rw [e.1], .inl ⟨rfl, rfl⟩⟩
  · simp at e
    obtain ⟨rfl, _, _⟩ := e
    rcases hc with ⟨e, _⟩ | ⟨ad, e, hc⟩
    · cases e
    · cases e
      refine ⟨_, _, rfl, .inr ⟨b, o, rfl, hlt, fun j x hx => ?_⟩⟩
      have := (hc j x hx).2
      rwa [add0] at this

set_option maxRecDepth 100000 in
theorem devKeeps_lifted (os : Os) (started : os.Started) (H : Type) (enc : TypeId × Value → H) :
    ReturnsInHanded {} Try.checked os 6 .any (Rows.devKeepsSpec.pre6 enc Try.prog Try.f6 Rows.devKeepsRow.domain false) (Rows.devKeepsSpec.post enc Try.prog Try.f6 false true false false) := by
  refine returnsInHanded_of_change_sized (C := Try.checked) Try.own started (by kernel_rfl) Try.func6
    (ChangeSpec.witness6 (enc := enc) (C := Try.checked) false ⟨#[], #[.int .i64 0, .slice none 0 0, .int .i64 0, .slice none 0 0], []⟩ 8 (by kernel_rfl) (by kernel_rfl) (by kernel_rfl) (by kernel_rfl)) ?_
  intro W base args ds gs before hval0 hW _ hsz0 _
  have hsz : (DataW.weightsEach Try.prog (Try.f6.params.toList ++ Rows.devKeepsSpec.plain.varTypes Try.prog) (ds ++ gs)).all (· ≤ reachBytes) = true := hsz0
  clear hsz0
  have hval : ∀ (j : Nat) t v, Try.f6.params[j]? = some t → args[j]? = some v → Value.okWide Try.prog W .any base t v := hval0
  have hW' := hW
  obtain ⟨p, q, hA0, hV, rfl, _, _⟩ := hW
  have hA : DataW.TrodAll enc Try.prog W 0 (fun _ => true) true Try.f6.params.toList args.toList ds p := hA0
  rw [Try.params6] at hA hval hsz
  obtain ⟨v0, v1, v2, v3, d0, d1, d2, d3, p0, p1, p2, p3, rfl, rfl, rfl, h0, h1, h2, h3⟩ := trodAll_four hA
  obtain ⟨rfl, rfl⟩ := trodVars_none hV
  obtain ⟨s, rfl, rfl, rfl, ws⟩ := open_int Try.underlying3 (hval 0 3 v0 rfl rfl) h0
  obtain ⟨r, rfl, rfl, rfl, wr⟩ := open_int Try.underlying3 (hval 2 3 v2 rfl rfl) h2
  have h1k := h1
  have h3k := h3
  obtain ⟨a, len, cap, rfl⟩ := okWide_slice Try.underlying22 (hval 1 22 v1 rfl rfl)
  obtain ⟨f1, hf1⟩ := h1
  obtain ⟨b, blen, bcap, rfl⟩ := okWide_slice Try.underlying34 (hval 3 34 v3 rfl rfl)
  obtain ⟨f3, hf3⟩ := h3
  have hlt : ∀ x ∈ [] ++ (p1 ++ ([] ++ p3)), x.block < W.heap.size := fun x hx => by simpa using hW'.lt x (by simp at hx; simp [hx])
  obtain ⟨l, hl⟩ := open_deeds (y := (d1, p1)) (by simpa [Value.cells] using hf1) hsz (j := 1) rfl rfl
  obtain ⟨ad, bc, bits, hbv, hbits, hsl⟩ := open_bits (y := (d3, p3)) (by simpa [Value.cells] using hf3)
  cases hbv
  have hbl : bits.length ≤ 140737488355328 := by
    rcases hsl with e | ⟨el, sp, e, hll⟩
    · rw [e]; simp
    · have := of_decide_eq_true (List.all_eq_true.1 hsz _ (DataW.weights_mem_each (j := 3) (t := 34) (d := d3) rfl rfl ((el.length + sp.length) * Try.prog.bytesOf 4) (by
        simp only at e
        rw [e]
        simp [DataW.weights, Try.underlying34])))
      rw [Try.bytes4'] at this
      simp only [reachBytes] at this
      omega
  have hB := bls_of_bits (hval 3 34 _ rfl rfl) hbits
  obtain ⟨a', c', hac, _⟩ := id hl
  cases hac
  have ha1 : r ≤ 9223372036854775807 := by
    have h2 : IntKind.i64.max = 9223372036854775807 := rfl
    simp only [Lit.wf, Bool.and_eq_true, decide_eq_true_eq] at wr
    omega
  have hmain : Calls Try.prog 6 #[.int .i64 s, .slice a l.length cap, .int .i64 r, .slice b bits.length bcap] W fun e w' => e = .returned (.bool true) ∧ Mod (fun _ => False) W w' := by
    by_cases hbad : s < 1 ∨ s > 40 ∨ (l.length : Int) > 120 ∨ r < 0
    · exact devkeeps_small W s r a l.length cap _ hbad
    · obtain ⟨n, rfl⟩ : ∃ n : Nat, s = n := ⟨s.toNat, by omega⟩
      exact devkeeps_ok W n (by omega) (by omega) a cap l hl (by omega) r (by omega) ha1 _ bits hB hbl
  refine hmain.mono fun e W' ⟨he, hmod⟩ => ?_
  subst he
  have hbelow := hmod.below
  refine ⟨_, rfl, _, _, _, [], [] ++ (p1 ++ ([] ++ p3)), [], hW', trodAll_mk1 (shut_bool Try.underlying4 true), ?_, rfl, hbelow.frame _, fun h => by cases h⟩
  exact trodAll_mk4 (shut_int Try.underlying3 ws) (Below.trod Try.laidOut (by kernel_rfl) (of_decide_eq_true (by kernel_rfl)) h1k hbelow (fun x hx => hlt x (by simp [hx]))) (shut_int Try.underlying3 wr) (Below.trod Try.laidOut (by kernel_rfl) (of_decide_eq_true (by kernel_rfl)) h3k hbelow (fun x hx => hlt x (by simp [hx])))

theorem devKeeps_holds : Rows.DevKeepsSaid :=
  OpenClaim.holds_of_wide 6 Try.f6 rfl rfl rfl rfl rfl rfl rfl ⟨rfl, rfl, rfl, rfl, rfl⟩ rfl rfl rfl rfl rfl (by kernel_rfl) Try.func6 (by kernel_rfl)
    (of_decide_eq_true (by kernel_rfl)) (by unfold Func.isWrapper; rw [if_neg (by decide +kernel)]; exact ⟨rfl, rfl⟩)
    (fun os started H enc _ => devKeeps_lifted os started H enc)

#print axioms devKeeps_holds
end Go.Proofs.Ytaaoabfmelpcpaa
