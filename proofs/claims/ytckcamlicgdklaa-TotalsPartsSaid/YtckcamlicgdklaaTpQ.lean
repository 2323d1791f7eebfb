/- sums.add. PRINTED BY A PROGRAM OF MY OWN. -/
import Derived.Test.YtckcamlicgdklaaTpP
namespace Go.Proofs.Ytckcamlicgdklaa
open Go.RowKit Go.Mo Go.Sort

theorem load57_85 {w : World} {b : Nat} {z : Int} {u : Value} (h : w.heap[b]? = some (.cells #[.int .i64 (hiW z), .int .u64 (loW z), u] 85 (0, 0))) : (loadVar 57 ⟨b, 0, none⟩).run Try.prog w = .ok (.agg #[.int .i64 (hiW z), .int .u64 (loW z)]) w :=
  run_loadVar_mid w b 0 57 [.int .i64 (hiW z), .int .u64 (loW z)] _ (fun j v hv => by
    rw [Nat.zero_add, cellB h]
    match j, hv with
    | 0, hv => exact hv
    | 1, hv => exact hv
    | j + 2, hv => simp at hv) Try.underlying57 rfl (by rw [size57]; rfl)
set_option maxRecDepth 100000 in
set_option maxHeartbeats 4000000 in
theorem sadd_calls (w : World) (b : Nat) (z : Int) (ua : Option Addr) (un uc : Nat) (hb : w.heap[b]? = some (.cells #[.int .i64 (hiW z), .int .u64 (loW z), .slice ua un uc] 85 (0, 0))) (L : Nat) (ns : List Int)
    (hL : w.heap[L]? = some (.cells (ns.map (Value.int .i64)).toArray 2 (0, 0))) (hne : L ≠ b) (hin : ∀ n ∈ ns, In64 n) (hlen : ns.length ≤ 1000000) :
    Calls Try.prog 24 #[.pointer (some ⟨b, 0, none⟩), .slice (some ⟨L, 0, none⟩) ns.length ns.length] w fun e w' => e = ret0 ∧ w'.heap[b]? = some (.cells #[.int .i64 (hiW (z + ns.sum)), .int .u64 (loW (z + ns.sum)), .slice ua un uc] 85 (0, 0)) ∧ Mod (fun q => q = b) w w' := by
  have HL := Lib.hid (And.intro hL hb)
  have HIN := Lib.hid hin
  clear hL hb hin
  go_enter Try.func24, Try.ntmps24
  go_wp2_with fail
  go_loopw [8] (fun i wr => ∃ k : Nat, k ≤ ns.length ∧ i = .int .i64 k ∧ wr.heap[b]? = some (.cells #[.int .i64 (hiW (z + (ns.take k).sum)), .int .u64 (loW (z + (ns.take k).sum)), .slice ua un uc] 85 (0, 0)) ∧ Mod (fun q => q = b) w wr) (fun i _ => ns.length - (intOf i).toNat)
  case atStart => exact ⟨0, by omega, rfl, by simpa using HL.out.2, Mod.refl _ w⟩
  case round =>
    obtain ⟨k, hk, rfl, hb, hm⟩ := hrel
    by_cases hlt : k < ns.length
    · obtain ⟨n, hn⟩ : ∃ n, ns[k]? = some n := ⟨_, List.getElem?_eq_getElem hlt⟩
      have hsum : (ns.take (k + 1)).sum = (ns.take k).sum + n := by rw [List.take_add_one, hn]; simp
      have e0 : wr.cell? ⟨L, k, none⟩ = some (.int .i64 n) := by
        rw [cellB ((hm.block L (ltB HL.out.1) hne).trans HL.out.1), List.getElem?_toArray, List.getElem?_map, hn]; rfl
      have HN := Lib.hid (HIN.out n (List.mem_of_getElem? hn))
      have HS := Lib.hid hsum
      have HB := Lib.hid hb
      have HM := Lib.hid hm
      clear hb hm hn hsum
      go_upto_region 3 with fail
      refine wp_region_held_drew (S := fun _ => True) (by kernel_rfl) trivial (fun hH => ?_)
      refine wpAnyH_take (i := 0) (oi := { dst := some 12, op := Op.move (Operand.tmp 0), type := 81, pos := "totals.go:20", after := #[], guard := none }) (v := .pointer (some ⟨b, 0, none⟩)) rfl (by kernel_rfl) (by kernel_rfl) (by kernel_rfl) (fun _ _ _ h => h) (Or.inl ⟨by rfl, ?_⟩) trivial ?_
      · intro w' _
        go_simp
        try with_reducible rfl
      (try simp only [Act.put, List.setIfInBounds_toArray, List.set_cons_zero, List.set_cons_succ])
      refine wpAnyH_take (i := 1) (oi := { dst := some 13, op := Op.move (Operand.tmp 0), type := 81, pos := "totals.go:20", after := #[], guard := none }) (v := .pointer (some ⟨b, 0, none⟩)) rfl (by kernel_rfl) (by kernel_rfl) (by kernel_rfl) (fun _ _ _ h => h) (Or.inl ⟨by rfl, ?_⟩) trivial ?_
      · intro w' _
        go_simp
        try with_reducible rfl
      (try simp only [Act.put, List.setIfInBounds_toArray, List.set_cons_zero, List.set_cons_succ])
      refine wpAnyH_take (i := 2) (oi := { dst := some 14, op := Op.nilCheck (Operand.tmp 13), type := 0, pos := "totals.go:20", after := #[{ on := 1, ground := Ground.data }], guard := none }) (v := .pointer (some ⟨b, 0, none⟩)) rfl (by kernel_rfl) (by kernel_rfl) (by kernel_rfl) (fun _ _ _ h => h) (Or.inl ⟨by rfl, ?_⟩) trivial ?_
      · intro w' _
        go_simp
        try with_reducible rfl
      (try simp only [Act.put, List.setIfInBounds_toArray, List.set_cons_zero, List.set_cons_succ])
      refine wpAnyH_take (i := 3) (oi := { dst := some 15, op := Op.fieldAddr 85 (Operand.tmp 14) 0, type := 0, pos := "totals.go:20", after := #[{ on := 2, ground := Ground.data }], guard := none }) (v := .pointer (some ⟨b, 0, none⟩)) rfl (by kernel_rfl) (by kernel_rfl) (by kernel_rfl) (fun _ _ _ h => h) (Or.inl ⟨by rfl, ?_⟩) trivial ?_
      · intro w' _
        go_simp
        try with_reducible rfl
      (try simp only [Act.put, List.setIfInBounds_toArray, List.set_cons_zero, List.set_cons_succ])
      refine wpAnyH_take (i := 5) (oi := { dst := some 17, op := Op.move (Operand.tmp 5), type := 2, pos := "totals.go:20", after := #[], guard := none }) (v := .int .i64 n) rfl (by kernel_rfl) (by kernel_rfl) (by kernel_rfl) (fun _ _ _ h => h) (Or.inl ⟨by rfl, ?_⟩) trivial ?_
      · intro w' _
        go_simp
        try with_reducible rfl
      (try simp only [Act.put, List.setIfInBounds_toArray, List.set_cons_zero, List.set_cons_succ])
      refine wpAnyH_ready (rs := [4, 6]) (by kernel_rfl) (by simp) ?_
      refine AllReadyH.cons (o := { dst := some 16, op := Op.load 57 (Operand.tmp 15), type := 57, pos := "totals.go:20", after := #[{ on := 3, ground := Ground.data }], guard := none }) rfl (fun K hK => ?_) ?_
      · refine step_exec rfl (exec_load_at _ _ 57 _ rfl ⟨b, 0, none⟩ rfl (load57_85 (drewB HB.out))) ?_
        refine hK.out _ _ trivial (fun hH => ?_)
        clear hK K
        (try simp only [Act.put, List.setIfInBounds_toArray, List.set_cons_zero, List.set_cons_succ])
        refine wpAnyH_ready (rs := [6]) (by kernel_rfl) (by simp) ?_
        refine AllReadyH.cons (o := { dst := some 18, op := Op.call { callee := Callee.value (Operand.func 8), args := #[Operand.tmp 17], argTypes := #[2] }, type := 57, pos := "totals.go:20", after := #[{ on := 5, ground := Ground.data }], guard := none }) rfl (fun K hK => ?_) AllReadyH.nil
        go_simp
        refine (wide_calls n HN.out.1 HN.out.2 _).mono ?_
        rintro e w5 ⟨rfl, hm5⟩
        have hb5 := (hm5.block _ (ltB HB.out) (fun q => q)).trans HB.out
        have hmw5 := HM.out.drew.tr (hm5.any (S := fun q => q = b))
        refine hK.out _ _ trivial (fun hH => ?_)
        clear hK K
        (try simp only [Act.put, List.setIfInBounds_toArray, List.set_cons_zero, List.set_cons_succ])
        have H5 := Lib.hid (And.intro hb5 hmw5)
        clear hb5 hmw5
        unfold wideV
        refine wpAnyH_ready (rs := [7]) (by kernel_rfl) (by simp) ?_
        refine AllReadyH.cons (o := { dst := some 19, op := Op.buildSlice 77 2 #[(0, Operand.tmp 16), (1, Operand.tmp 18)], type := 77, pos := "totals.go:20", after := #[{ on := 4, ground := Ground.data }, { on := 6, ground := Ground.data }], guard := none }) rfl (fun K hK => ?_) AllReadyH.nil
        go_simp
        refine hK.out _ _ trivial (fun hH => ?_)
        clear hK K
        (try simp only [Act.put, List.setIfInBounds_toArray, List.set_cons_zero, List.set_cons_succ])
        refine wpAnyH_ready (rs := [8]) (by kernel_rfl) (by simp) ?_
        refine AllReadyH.cons (o := { dst := some 20, op := Op.call { callee := Callee.value (Operand.func 7), args := #[Operand.tmp 19], argTypes := #[77] }, type := 57, pos := "totals.go:20", after := #[{ on := 7, ground := Ground.data }, { on := 6, ground := Ground.chain }], guard := none }) rfl (fun K hK => ?_) AllReadyH.nil
        go_simp
        refine (plus2 w5 (z + (ns.take k).sum) n).mono ?_
        rintro e w6 ⟨rfl, hm6⟩
        have hb6 := (hm6.block _ (ltB (allocB H5.out.1 _)) (fun q => q)).trans (allocB H5.out.1 _)
        have hmw6 := (H5.out.2.alloc _).tr (hm6.any (S := fun q => q = b))
        refine hK.out _ _ trivial (fun hH => ?_)
        clear hK K
        (try simp only [Act.put, List.setIfInBounds_toArray, List.set_cons_zero, List.set_cons_succ])
        unfold wideV
        have s0 := cellB hb6 0
        have s1 := cellB hb6 1
        have f0 := frozB hb6 0
        have f1 := frozB hb6 1
        simp only [List.getElem?_toArray, List.getElem?_cons_zero, List.getElem?_cons_succ] at s0 s1
        have H6 := Lib.hid (And.intro hb6 hmw6)
        clear hb6 hmw6
        refine wpAnyH_take (i := 9) (oi := { dst := some 21, op := Op.nilCheck (Operand.tmp 12), type := 0, pos := "totals.go:20", after := #[{ on := 0, ground := Ground.data }, { on := 0, ground := Ground.phase }, { on := 1, ground := Ground.phase }, { on := 2, ground := Ground.phase }, { on := 3, ground := Ground.phase }, { on := 4, ground := Ground.phase }, { on := 5, ground := Ground.phase }, { on := 6, ground := Ground.phase }, { on := 7, ground := Ground.phase }, { on := 8, ground := Ground.phase }], guard := none }) (v := .pointer (some ⟨b, 0, none⟩)) rfl (by kernel_rfl) (by kernel_rfl) (by kernel_rfl) (fun _ _ _ h => h) (Or.inl ⟨by rfl, ?_⟩) trivial ?_
        · intro w' _
          go_simp
          try with_reducible rfl
        (try simp only [Act.put, List.setIfInBounds_toArray, List.set_cons_zero, List.set_cons_succ])
        refine wpAnyH_take (i := 10) (oi := { dst := some 22, op := Op.fieldAddr 85 (Operand.tmp 21) 0, type := 0, pos := "totals.go:20", after := #[{ on := 9, ground := Ground.data }, { on := 0, ground := Ground.phase }, { on := 1, ground := Ground.phase }, { on := 2, ground := Ground.phase }, { on := 3, ground := Ground.phase }, { on := 4, ground := Ground.phase }, { on := 5, ground := Ground.phase }, { on := 6, ground := Ground.phase }, { on := 7, ground := Ground.phase }, { on := 8, ground := Ground.phase }], guard := none }) (v := .pointer (some ⟨b, 0, none⟩)) rfl (by kernel_rfl) (by kernel_rfl) (by kernel_rfl) (fun _ _ _ h => h) (Or.inl ⟨by rfl, ?_⟩) trivial ?_
        · intro w' _
          go_simp
          try with_reducible rfl
        (try simp only [Act.put, List.setIfInBounds_toArray, List.set_cons_zero, List.set_cons_succ])
        refine wpAnyH_ready (rs := [11]) (by kernel_rfl) (by simp) ?_
        refine AllReadyH.cons (o := { dst := none, op := Op.store 57 (Operand.tmp 22) (Operand.tmp 20), type := 0, pos := "totals.go:20", after := #[{ on := 10, ground := Ground.data }, { on := 8, ground := Ground.data }, { on := 8, ground := Ground.chain }, { on := 0, ground := Ground.phase }, { on := 1, ground := Ground.phase }, { on := 2, ground := Ground.phase }, { on := 3, ground := Ground.phase }, { on := 4, ground := Ground.phase }, { on := 5, ground := Ground.phase }, { on := 6, ground := Ground.phase }, { on := 7, ground := Ground.phase }, { on := 8, ground := Ground.phase }], guard := none }) rfl (fun K hK => ?_) AllReadyH.nil
        go_simp
        refine hK.out _ _ trivial (fun hH => ?_)
        clear hK K
        (try simp only [Act.put])
        refine wpAnyH_done (by kernel_rfl) ?_ _
        go_wp2_with fail
        go_roundw
        case rel =>
          refine ⟨k + 1, by omega, by simp, ?_, (H6.out.2.setCell (p := ⟨b, 0, none⟩) (fun _ => rfl) _).setCell (p := ⟨b, 1, none⟩) (fun _ => rfl) _⟩
          rw [setB (setB H6.out.1 0 _) 1 _, HS.out, ← Int.add_assoc]
          rfl
        case measure => simp [intOf]; omega
      · refine AllReadyH.cons (o := { dst := some 18, op := Op.call { callee := Callee.value (Operand.func 8), args := #[Operand.tmp 17], argTypes := #[2] }, type := 57, pos := "totals.go:20", after := #[{ on := 5, ground := Ground.data }], guard := none }) rfl (fun K hK => ?_) AllReadyH.nil
        go_simp
        refine (wide_calls n HN.out.1 HN.out.2 _).mono ?_
        rintro e w5 ⟨rfl, hm5⟩
        have hb5 := (hm5.block _ (ltB HB.out) (fun q => q)).trans HB.out
        have hmw5 := HM.out.drew.tr (hm5.any (S := fun q => q = b))
        refine hK.out _ _ trivial (fun hH => ?_)
        clear hK K
        (try simp only [Act.put, List.setIfInBounds_toArray, List.set_cons_zero, List.set_cons_succ])
        refine wpAnyH_ready (rs := [4]) (by kernel_rfl) (by simp) ?_
        refine AllReadyH.cons (o := { dst := some 16, op := Op.load 57 (Operand.tmp 15), type := 57, pos := "totals.go:20", after := #[{ on := 3, ground := Ground.data }], guard := none }) rfl (fun K hK => ?_) AllReadyH.nil
        refine step_exec rfl (exec_load_at _ _ 57 _ rfl ⟨b, 0, none⟩ rfl (load57_85 hb5)) ?_
        refine hK.out _ _ trivial (fun hH => ?_)
        clear hK K
        (try simp only [Act.put, List.setIfInBounds_toArray, List.set_cons_zero, List.set_cons_succ])
        have H5 := Lib.hid (And.intro hb5 hmw5)
        clear hb5 hmw5
        unfold wideV
        refine wpAnyH_ready (rs := [7]) (by kernel_rfl) (by simp) ?_
        refine AllReadyH.cons (o := { dst := some 19, op := Op.buildSlice 77 2 #[(0, Operand.tmp 16), (1, Operand.tmp 18)], type := 77, pos := "totals.go:20", after := #[{ on := 4, ground := Ground.data }, { on := 6, ground := Ground.data }], guard := none }) rfl (fun K hK => ?_) AllReadyH.nil
        go_simp
        refine hK.out _ _ trivial (fun hH => ?_)
        clear hK K
        (try simp only [Act.put, List.setIfInBounds_toArray, List.set_cons_zero, List.set_cons_succ])
        refine wpAnyH_ready (rs := [8]) (by kernel_rfl) (by simp) ?_
        refine AllReadyH.cons (o := { dst := some 20, op := Op.call { callee := Callee.value (Operand.func 7), args := #[Operand.tmp 19], argTypes := #[77] }, type := 57, pos := "totals.go:20", after := #[{ on := 7, ground := Ground.data }, { on := 6, ground := Ground.chain }], guard := none }) rfl (fun K hK => ?_) AllReadyH.nil
        go_simp
        refine (plus2 w5 (z + (ns.take k).sum) n).mono ?_
        rintro e w6 ⟨rfl, hm6⟩
        have hb6 := (hm6.block _ (ltB (allocB H5.out.1 _)) (fun q => q)).trans (allocB H5.out.1 _)
        have hmw6 := (H5.out.2.alloc _).tr (hm6.any (S := fun q => q = b))
        refine hK.out _ _ trivial (fun hH => ?_)
        clear hK K
        (try simp only [Act.put, List.setIfInBounds_toArray, List.set_cons_zero, List.set_cons_succ])
        unfold wideV
        have s0 := cellB hb6 0
        have s1 := cellB hb6 1
        have f0 := frozB hb6 0
        have f1 := frozB hb6 1
        simp only [List.getElem?_toArray, List.getElem?_cons_zero, List.getElem?_cons_succ] at s0 s1
        have H6 := Lib.hid (And.intro hb6 hmw6)
        clear hb6 hmw6
        refine wpAnyH_take (i := 9) (oi := { dst := some 21, op := Op.nilCheck (Operand.tmp 12), type := 0, pos := "totals.go:20", after := #[{ on := 0, ground := Ground.data }, { on := 0, ground := Ground.phase }, { on := 1, ground := Ground.phase }, { on := 2, ground := Ground.phase }, { on := 3, ground := Ground.phase }, { on := 4, ground := Ground.phase }, { on := 5, ground := Ground.phase }, { on := 6, ground := Ground.phase }, { on := 7, ground := Ground.phase }, { on := 8, ground := Ground.phase }], guard := none }) (v := .pointer (some ⟨b, 0, none⟩)) rfl (by kernel_rfl) (by kernel_rfl) (by kernel_rfl) (fun _ _ _ h => h) (Or.inl ⟨by rfl, ?_⟩) trivial ?_
        · intro w' _
          go_simp
          try with_reducible rfl
        (try simp only [Act.put, List.setIfInBounds_toArray, List.set_cons_zero, List.set_cons_succ])
        refine wpAnyH_take (i := 10) (oi := { dst := some 22, op := Op.fieldAddr 85 (Operand.tmp 21) 0, type := 0, pos := "totals.go:20", after := #[{ on := 9, ground := Ground.data }, { on := 0, ground := Ground.phase }, { on := 1, ground := Ground.phase }, { on := 2, ground := Ground.phase }, { on := 3, ground := Ground.phase }, { on := 4, ground := Ground.phase }, { on := 5, ground := Ground.phase }, { on := 6, ground := Ground.phase }, { on := 7, ground := Ground.phase }, { on := 8, ground := Ground.phase }], guard := none }) (v := .pointer (some ⟨b, 0, none⟩)) rfl (by kernel_rfl) (by kernel_rfl) (by kernel_rfl) (fun _ _ _ h => h) (Or.inl ⟨by rfl, ?_⟩) trivial ?_
        · intro w' _
          go_simp
          try with_reducible rfl
        (try simp only [Act.put, List.setIfInBounds_toArray, List.set_cons_zero, List.set_cons_succ])
        refine wpAnyH_ready (rs := [11]) (by kernel_rfl) (by simp) ?_
        refine AllReadyH.cons (o := { dst := none, op := Op.store 57 (Operand.tmp 22) (Operand.tmp 20), type := 0, pos := "totals.go:20", after := #[{ on := 10, ground := Ground.data }, { on := 8, ground := Ground.data }, { on := 8, ground := Ground.chain }, { on := 0, ground := Ground.phase }, { on := 1, ground := Ground.phase }, { on := 2, ground := Ground.phase }, { on := 3, ground := Ground.phase }, { on := 4, ground := Ground.phase }, { on := 5, ground := Ground.phase }, { on := 6, ground := Ground.phase }, { on := 7, ground := Ground.phase }, { on := 8, ground := Ground.phase }], guard := none }) rfl (fun K hK => ?_) AllReadyH.nil
        go_simp
        refine hK.out _ _ trivial (fun hH => ?_)
        clear hK K
        (try simp only [Act.put])
        refine wpAnyH_done (by kernel_rfl) ?_ _
        go_wp2_with fail
        go_roundw
        case rel =>
          refine ⟨k + 1, by omega, by simp, ?_, (H6.out.2.setCell (p := ⟨b, 0, none⟩) (fun _ => rfl) _).setCell (p := ⟨b, 1, none⟩) (fun _ => rfl) _⟩
          rw [setB (setB H6.out.1 0 _) 1 _, HS.out, ← Int.add_assoc]
          rfl
        case measure => simp [intOf]; omega
    · have e : k = ns.length := by omega
      subst e
      rw [List.take_length] at hb
      have H3 := Lib.hid (And.intro hb hm)
      clear hb hm
      go_wp2_with fail
      go_returns
      exact ⟨rfl, H3.out.1, H3.out.2⟩
end Go.Proofs.Ytckcamlicgdklaa
