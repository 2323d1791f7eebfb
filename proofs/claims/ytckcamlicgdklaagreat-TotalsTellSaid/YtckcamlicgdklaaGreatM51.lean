/- TotalsTell, proved of every input: whatever the state, the genesis and the address, the function answers true, and leaves its arguments as they were. -/
import Derived.Test.YtckcamlicgdklaaGreatRows
import Derived.Test.YtckcamlicgdklaaGreatM50
namespace Go.Proofs.YtckcamlicgdklaaGreat
open Go.ChangeShapes Go.WideShapes Go.ChangeAt Go.RowKit Go.Joins Go.Deep Go.Mo
theorem Tryz.own : ownKnob Tryz.prog.godebug = none := by kernel_rfl
theorem Tryz.laidOut : laidOutB Tryz.prog = true := by kernel_rfl
theorem cell_one {P : Program} {w : World} {r : Reach} {base : Nat} {t : TypeId} {v : Value} (h : Cell.okWide P w r base t v) : v.oneCell' = true := by
 cases v with
 | agg _ => unfold Cell.okWide Cell.ok at h; split at h <;> simp_all
 | tuple _ => unfold Cell.okWide Cell.ok at h; split at h <;> simp_all
 | _ => rfl
theorem row_one {P : Program} {w : World} {r : Reach} {base : Nat} {t : TypeId} {cs : Array Value} (h : Row.okWide P w r base t cs) : cs.all (·.oneCell') = true := by
 obtain ⟨ts, _, _, h⟩ := h
 rw [Array.all_eq_true]
 intro i hi
 obtain ⟨u, _, hu⟩ := h i cs[i] (Array.getElem?_eq_getElem hi)
 exact cell_one hu
theorem adr_of_rd {w : World} {cs : List Value} (h : Rd w 41 cs) : ∃ t : Adr, cs = adrCells t := by
 have hl := h.len Tryz.underlying41
 rw [Tryz.c40] at hl
 obtain ⟨vb, hvb, hrb⟩ := h.cellAt Tryz.underlying41 0 rfl 4 0 rfl rfl Tryz.c4 Tryz.c40 (by omega)
 obtain ⟨bb, rfl⟩ := hrb.bool Tryz.underlying4
 obtain ⟨ph, hph, hphe⟩ := hash_of_rd (h.fieldAt Tryz.underlying41 1 rfl 27 1 32 rfl rfl Tryz.c27)
 refine ⟨⟨bb, ph, hph⟩, ?_⟩
 cases cs with
 | nil => simp at hl
 | cons x r =>
  simp only [List.length_cons] at hl
  simp only [List.getElem?_cons_zero, Option.some.injEq] at hvb
  subst hvb
  simp only [List.drop_succ_cons, List.drop_zero] at hphe
  rw [List.take_of_length_le (by omega)] at hphe
  rw [hphe]
  rfl
set_option maxRecDepth 100000 in
theorem totalsTell_lifted (os : Os) (started : os.Started) (H : Type) (enc : TypeId × Value → H) :
  ReturnsInHanded {} Tryz.checked os 3 .any (Rows.totalsTellSpec.pre6 enc Tryz.prog Tryz.f3 Rows.totalsTellRow.domain false) (Rows.totalsTellSpec.post enc Tryz.prog Tryz.f3 false true false false) := by
 refine returnsInHanded_of_change_sized (C := Tryz.checked) Tryz.own started (by kernel_rfl) Tryz.func3
  (ChangeSpec.witness6 (enc := enc) (C := Tryz.checked) false ⟨#[], #[.agg Tryz.zeroCells36, .agg ((List.replicate 13 (Value.int .i64 0) ++ [Value.slice none 0 0]).toArray), .agg ((Value.bool false :: List.replicate 32 (Value.int .u8 0)).toArray)], []⟩ 8 (by kernel_rfl) (by kernel_rfl) (by kernel_rfl) (by kernel_rfl)) ?_
 intro W base args ds gs before hval0 hW _ hsz0 _
 have hsz : (DataW.weightsEach Tryz.prog (Tryz.f3.params.toList ++ Rows.totalsTellSpec.plain.varTypes Tryz.prog) (ds ++ gs)).all (· ≤ reachBytes) = true := hsz0
 clear hsz0
 have hval : ∀ (j : Nat) t v, Tryz.f3.params[j]? = some t → args[j]? = some v → Value.okWide Tryz.prog W .any base t v := hval0
 have hW' := hW
 obtain ⟨p, q, hA0, hV, rfl, _, _⟩ := hW
 have hA : DataW.TrodAll enc Tryz.prog W 0 (fun _ => true) true Tryz.f3.params.toList args.toList ds p := hA0
 rw [Tryz.params3] at hA hval hsz
 obtain ⟨v0, v1, v2, d0, d1, d2, p0, p1, p2, rfl, rfl, rfl, h0, h1, h2⟩ := trodAll_three hA
 obtain ⟨rfl, rfl⟩ := trodVars_none hV
 have h0k := h0
 have h1k := h1
 have h2k := h2
 have hlt : ∀ x ∈ p0 ++ p1 ++ p2, x.block < W.heap.size := fun x hx => by simpa using hW'.lt x (by simp at hx; simp [hx])
 have o0 := hval 0 36 v0 rfl rfl
 have o1 := hval 1 39 v1 rfl rfl
 have o2 := hval 2 41 v2 rfl rfl
 unfold Value.okWide at o0 o1 o2
 rw [Tryz.underlying36] at o0
 rw [Tryz.underlying39] at o1
 rw [Tryz.underlying41] at o2
 obtain ⟨cs, rfl, _, _⟩ := o0
 obtain ⟨xs, rfl, _, hr1⟩ := o1
 obtain ⟨ys, rfl, _, _⟩ := o2
 obtain ⟨f0, hf0⟩ := h0
 obtain ⟨f1, hf1⟩ := h1
 obtain ⟨f2, hf2⟩ := h2
 have r0 : Rd W 36 cs.toList := ⟨H, enc, f0, (d0, p0), hf0, fun n hn => of_decide_eq_true (List.all_eq_true.1 hsz n (weightsEach_mem (j := 0) (t := 36) rfl rfl n hn))⟩
 have r1 : Rd W 39 xs.toList := ⟨H, enc, f1, (d1, p1), hf1, fun n hn => of_decide_eq_true (List.all_eq_true.1 hsz n (weightsEach_mem (j := 1) (t := 39) rfl rfl n hn))⟩
 have r2 : Rd W 41 ys.toList := ⟨H, enc, f2, (d2, p2), hf2, fun n hn => of_decide_eq_true (List.all_eq_true.1 hsz n (weightsEach_mem (j := 2) (t := 41) rfl rfl n hn))⟩
 obtain ⟨t, ht⟩ := adr_of_rd r2
 have hmain := tell_calls W cs.toList xs.toList t r0 r1 (fun u hu => (Array.all_eq_true_iff_forall_mem.1 (row_one hr1)) u (by simpa using hu))
 rw [← ht] at hmain
 simp only [Array.toArray_toList] at hmain
 refine hmain.mono fun e W' ⟨he, hmod⟩ => ?_
 subst he
 have hbelow := hmod.below
 refine ⟨_, rfl, _, _, _, [], p0 ++ (p1 ++ p2), [], hW', trodAll_mk1 (shut_bool Tryz.underlying4 true), ?_, rfl, hbelow.frame _, fun h => by cases h⟩
 exact trodAll_mk3 (Below.trod Tryz.laidOut (by kernel_rfl) (of_decide_eq_true (by kernel_rfl)) h0k hbelow (fun x hx => hlt x (by simp [hx]))) (Below.trod Tryz.laidOut (by kernel_rfl) (of_decide_eq_true (by kernel_rfl)) h1k hbelow (fun x hx => hlt x (by simp [hx]))) (Below.trod Tryz.laidOut (by kernel_rfl) (of_decide_eq_true (by kernel_rfl)) h2k hbelow (fun x hx => hlt x (by simp [hx])))
set_option maxRecDepth 100000 in
set_option maxHeartbeats 16000000 in
theorem tell_closed : joinedFacts Tryz.pinned.checked.prog 3 Tryz.f3 Rows.totalsTellSpec Rows.totalsTellRow = true := by
 unfold joinedFacts
 repeat' (with_reducible refine (Bool.and_eq_true _ _).mpr ⟨?_, ?_⟩)
 all_goals (as_aux_lemma => kernel_rfl)
theorem tell_named : Tryz.pinned.checked.prog.funcNamed Rows.totalsTellRow.func = some 3 := by kernel_rfl
theorem tell_inst : Tryz.f3.isInstance Tryz.pinned.checked.prog Rows.totalsTellRow.origin Rows.totalsTellRow.targs := of_decide_eq_true (by kernel_rfl)
theorem totalsTell_holds : Rows.TotalsTellSaid :=
 OpenClaim.holds_of_wide 3 Tryz.f3 rfl rfl rfl rfl rfl rfl rfl ⟨rfl, rfl, rfl, rfl, rfl⟩ rfl rfl rfl rfl rfl tell_named Tryz.func3 tell_closed
  tell_inst (by unfold Func.isWrapper; rw [if_neg (by decide +kernel)]; exact ⟨rfl, rfl⟩)
  (fun os started H enc _ => totalsTell_lifted os started H enc)
#print axioms totalsTell_holds
end Go.Proofs.YtckcamlicgdklaaGreat
