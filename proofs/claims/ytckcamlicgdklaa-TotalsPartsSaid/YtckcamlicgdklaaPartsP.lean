/- TotalsParts, proved of every input: whatever the state and the entry, the function answers true, and leaves its arguments as they were. -/
import Derived.Test.YtckcamlicgdklaaRows
import Derived.Test.YtckcamlicgdklaaLwB
namespace Go.Proofs.Ytckcamlicgdklaa
open Go.ChangeShapes Go.WideShapes Go.ChangeAt Go.RowKit Go.Joins Go.Deep Go.Mo

theorem Try.own : ownKnob Try.prog.godebug = none := by kernel_rfl
theorem Try.laidOut : laidOutB Try.prog = true := by kernel_rfl
theorem cell_one {P : Program} {w : World} {r : Reach} {base : Nat} {t : TypeId} {v : Value} (h : Cell.okWide P w r base t v) : v.oneCell' = true := by
  cases v with
  | agg _ => unfold Cell.okWide Cell.ok at h; split at h <;> simp_all
  | tuple _ => unfold Cell.okWide Cell.ok at h; split at h <;> simp_all
  | _ => rfl
theorem row_one {P : Program} {w : World} {r : Reach} {base : Nat} {t : TypeId} {cs : Array Value} (h : Row.okWide P w r base t cs) : cs.all (·.oneCell') = true := by
  obtain ⟨ts, _, _, h⟩ := h
  rw [Array.all_eq_true]
  intro i hi
  obtain ⟨u, _, hu⟩ := h i cs[i] (Array.getElem?_eq_getElem hi)
  exact cell_one hu

set_option maxRecDepth 100000 in
theorem totalsParts_lifted (os : Os) (started : os.Started) (H : Type) (enc : TypeId × Value → H) :
    ReturnsInHanded {} Try.checked os 3 .any (Rows.totalsPartsSpec.pre6 enc Try.prog Try.f3 Rows.totalsPartsRow.domain false) (Rows.totalsPartsSpec.post enc Try.prog Try.f3 false true false false) := by
  refine returnsInHanded_of_change_sized (C := Try.checked) Try.own started (by kernel_rfl) Try.func3
    (ChangeSpec.witness6 (enc := enc) (C := Try.checked) false ⟨#[], #[.agg Try.zeroCells36, .agg Try.zeroCells51], []⟩ 8 (by kernel_rfl) (by kernel_rfl) (by kernel_rfl) (by kernel_rfl)) ?_
  intro W base args ds gs before hval0 hW _ hsz0 _
  have hsz : (DataW.weightsEach Try.prog (Try.f3.params.toList ++ Rows.totalsPartsSpec.plain.varTypes Try.prog) (ds ++ gs)).all (· ≤ reachBytes) = true := hsz0
  clear hsz0
  have hval : ∀ (j : Nat) t v, Try.f3.params[j]? = some t → args[j]? = some v → Value.okWide Try.prog W .any base t v := hval0
  have hW' := hW
  obtain ⟨p, q, hA0, hV, rfl, _, _⟩ := hW
  have hA : DataW.TrodAll enc Try.prog W 0 (fun _ => true) true Try.f3.params.toList args.toList ds p := hA0
  rw [Try.params3] at hA hval hsz
  obtain ⟨v0, v1, d0, d1, p0, p1, rfl, rfl, rfl, h0, h1⟩ := trodAll_two hA
  obtain ⟨rfl, rfl⟩ := trodVars_none hV
  have h0k := h0
  have h1k := h1
  have hlt : ∀ x ∈ p0 ++ p1, x.block < W.heap.size := fun x hx => by simpa using hW'.lt x (by simp at hx; simp [hx])
  have o0 := hval 0 36 v0 rfl rfl
  have o1 := hval 1 51 v1 rfl rfl
  unfold Value.okWide at o0 o1
  rw [Try.underlying36] at o0
  rw [Try.underlying51] at o1
  obtain ⟨cs, rfl, _, hr0⟩ := o0
  obtain ⟨xs, rfl, _, _⟩ := o1
  obtain ⟨f0, hf0⟩ := h0
  obtain ⟨f1, hf1⟩ := h1
  have r0 : Rd W 36 cs.toList := ⟨H, enc, f0, (d0, p0), hf0, fun n hn => of_decide_eq_true (List.all_eq_true.1 hsz n (weightsEach_mem (j := 0) (t := 36) rfl rfl n hn))⟩
  have r1 : Rd W 51 xs.toList := ⟨H, enc, f1, (d1, p1), hf1, fun n hn => of_decide_eq_true (List.all_eq_true.1 hsz n (weightsEach_mem (j := 1) (t := 51) rfl rfl n hn))⟩
  have hmain := parts_calls W cs.toList xs.toList r0 r1 (by simpa using row_one hr0)
  simp only [Array.toArray_toList] at hmain
  refine hmain.mono fun e W' ⟨he, hmod⟩ => ?_
  subst he
  have hbelow := hmod.below
  refine ⟨_, rfl, _, _, _, [], p0 ++ p1, [], hW', trodAll_mk1 (shut_bool Try.underlying4 true), ?_, rfl, hbelow.frame _, fun h => by cases h⟩
  exact trodAll_mk2 (Below.trod Try.laidOut (by kernel_rfl) (of_decide_eq_true (by kernel_rfl)) h0k hbelow (fun x hx => hlt x (by simp [hx]))) (Below.trod Try.laidOut (by kernel_rfl) (of_decide_eq_true (by kernel_rfl)) h1k hbelow (fun x hx => hlt x (by simp [hx])))

theorem totalsParts_holds : Rows.TotalsPartsSaid :=
  OpenClaim.holds_of_wide 3 Try.f3 rfl rfl rfl rfl rfl rfl rfl ⟨rfl, rfl, rfl, rfl, rfl⟩ rfl rfl rfl rfl rfl (by kernel_rfl) Try.func3 (by kernel_rfl)
    (of_decide_eq_true (by kernel_rfl)) (by unfold Func.isWrapper; rw [if_neg (by decide +kernel)]; exact ⟨rfl, rfl⟩)
    (fun os started H enc _ => totalsParts_lifted os started H enc)

#print axioms totalsParts_holds
end Go.Proofs.Ytckcamlicgdklaa
