/- A book of wide sums: add. -/
import Derived.Test.YtckcamlicgdklaaTpC
import Derived.Laws.Rows
import Derived.Handy
import Derived.Deep.RegionHeld3
import Derived.Deep.RegionLaw
import Derived.Deep.RegionWith
namespace Go.Proofs.Ytckcamlicgdklaa
open Go.RowKit Go.Mo

def wv (l : List (Nm × Int)) : List (Nm × Value) := l.map fun x => (x.1, wideV x.2)
def getW (l : List (Nm × Int)) (k : Nm) : Int := (lkN l k).getD 0

theorem wv_lk (k : Nm) : ∀ l : List (Nm × Int), lkN (wv l) k = (lkN l k).map wideV
  | [] => rfl
  | x :: r => by
    have ih := wv_lk k r
    simp only [wv] at ih ⊢
    by_cases h : x.1 = k
    · simp [lkN, h]
    · simp [lkN, h, ih]
theorem wv_up (k : Nm) (z : Int) : ∀ l : List (Nm × Int), wv (upN l k z) = upN (wv l) k (wideV z)
  | [] => rfl
  | x :: r => by
    have ih := wv_up k z r
    simp only [wv] at ih ⊢
    by_cases h : x.1 = k
    · simp [upN, h]
    · simp [upN, h, ih]

abbrev ret0 : Ending := .returned (.tuple #[])
theorem zero57 (w : World) : (zeroValue 57).run Try.prog w = .ok (wideV 0) w := by kernel_rfl

theorem heap_layObj_same {w : World} {b : Nat} (h : b < w.heap.size) (o : Obj) : (w.layObj b o).heap[b]? = some o := by simp [World.layObj, h]
theorem heap_layObj_other {w : World} {b k : Nat} (h : k ≠ b) (o : Obj) : (w.layObj b o).heap[k]? = w.heap[k]? := by
  simp only [World.layObj]; rw [Array.getElem?_setIfInBounds_ne (fun e => h e.symm)]
theorem Mod_layObj {S : Nat → Prop} {a w : World} (h : Mod S a w) {b : Nat} (hb : b < a.heap.size → S b) (o : Obj) : Mod S a (w.layObj b o) :=
  h.trans (S' := fun k => k = b) ⟨rfl, rfl, rfl, by simp [World.layObj], fun _ _ hn => heap_layObj_other hn o⟩ (fun _ q l => by subst q; exact hb l)

theorem size93 : (Try.prog.info? 93).map (·.size) = some 33 := by kernel_rfl
theorem nm_size (k : Nm) : (Try.prog.info? 93).map (·.size) = some (nmCells k).toArray.size := by
  rw [size93]; simp [nmCells, k.len]

/-- A load of a name, as one step of a region that draws its order. -/
theorem step_load93 {ops : Array Oper} {o : Oper} {a : Act} {w : World} {K : Act → World → Prop} {Q : Exit → Act → World → Prop} {E : Prop} (hgd : o.guard = none) (x : Operand) (ho : o.op = .load 93 x)
    (g : Nat) (hx : a.eval x = .pointer (some ⟨g, 0, none⟩)) (k : Nm) (hg : w.heap[g]? = some (.cells (nmCells k).toArray 93 (0, 0)))
    (h : K (a.put o.dst (.agg (nmCells k).toArray)) w) : if Region.wanted o (yielded ops a.tmps) = true then Oper.wp Try.prog o a w K Q else E := by
  rw [if_pos (by simp [Region.wanted, hgd])]
  exact wp_load_row 93 x ho g hx 93 _ (0, 0) _ hg Try.underlying93 rfl (nm_size k) h

theorem exec_load_row (a : Act) (o : Oper) {w : World} (ty : TypeId) (x : Operand) (ho : o.op = .load ty x) (g : Nat) (hx : a.eval x = .pointer (some ⟨g, 0, none⟩)) (cs : Array Value)
    (hl : (loadVar ty ⟨g, 0, none⟩).run Try.prog w = .ok (.agg cs) w) : (execOp a.eval o).run Try.prog w = .ok (.value (.agg cs)) w := by
  unfold execOp
  simp only [ho, hx, Instr.loadAt, Instr.sureAddr, Sem.run_bind, Sem.run_pure, Result.andThen_ok, hl]
theorem load93 {w : World} {g : Nat} {k : Nm} (hg : w.heap[g]? = some (.cells (nmCells k).toArray 93 (0, 0))) : (loadVar 93 ⟨g, 0, none⟩).run Try.prog w = .ok (.agg (nmCells k).toArray) w :=
  run_loadVar_row w g 93 93 _ (0, 0) _ hg Try.underlying93 rfl (nm_size k)
theorem size57 : (Try.prog.info? 57).map (·.size) = some 2 := by kernel_rfl
theorem load57 {w : World} {g : Nat} {x y : Value} (hg : w.heap[g]? = some (.cells #[x, y] 57 (0, 0))) : (loadVar 57 ⟨g, 0, none⟩).run Try.prog w = .ok (.agg #[x, y]) w :=
  run_loadVar_row w g 57 57 _ (0, 0) _ hg Try.underlying57 rfl size57
theorem exec_lookup (a : Act) (o : Oper) {w : World} {T : TypeId} {x y : Operand} (ho : o.op = .lookup T x y false) {v : Value} (h : (Instr.lookup T (a.eval x) (a.eval y) false).run Try.prog w = .ok v w) : (execOp a.eval o).run Try.prog w = .ok (.value v) w := by
  unfold execOp
  simp only [ho, Sem.run_bind, Sem.run_pure, Result.andThen_ok, h]

set_option maxRecDepth 100000 in
set_option maxHeartbeats 2000000 in
theorem add_calls (w : World) (b : Nat) (l : List (Nm × Int)) (h : w.heap[b]? = some (nmap (wv l))) (k : Nm) (z : Int) :
    Calls Try.prog 26 #[.map (some b), nmV k, wideV z] w fun e w' => e = ret0 ∧ w'.heap[b]? = some (nmap (wv (upN l k (getW l k + z)))) ∧ Mod (fun j => j = b) w w' := by
  obtain ⟨w0, hw0⟩ : ∃ w0, (w.alloc (.cells (nmCells k).toArray 93)).alloc (.cells #[.int .i64 (hiW z), .int .u64 (loW z)] 57) = w0 := ⟨_, rfl⟩
  have hm0 : Mod (fun _ => False) w w0 := by rw [← hw0]; exact ((Mod.refl _ w).alloc _).alloc _
  have hk0 : w0.heap[w.heap.size]? = some (.cells (nmCells k).toArray 93 (0, 0)) := by rw [← hw0]; exact allocB (newB w _) _
  have hz0 : w0.heap[w.heap.size + 1]? = some (.cells #[.int .i64 (hiW z), .int .u64 (loW z)] 57 (0, 0)) := by
    rw [← hw0]; have := newB (w.alloc (.cells (nmCells k).toArray 93)) (.cells #[.int .i64 (hiW z), .int .u64 (loW z)] 57); rwa [World.size_alloc] at this
  have hb0 : w0.heap[b]? = some (nmap (wv l)) := by rw [← hw0]; exact allocB (allocB h _) _
  have hgw : (lkN (wv l) k).getD (wideV 0) = wideV (getW l k) := by rw [wv_lk, getW]; cases lkN l k <;> rfl
  have hlk : ∀ W : World, W.heap[b]? = some (nmap (wv l)) → (Instr.lookup 90 (.map (some b)) (.agg (nmCells k).toArray) false).run Try.prog W = .ok (.agg #[.int .i64 (hiW (getW l k)), .int .u64 (loW (getW l k))]) W := fun W hW => by
    have := run_lookupN Try.underlying90 hW k (zero57 W)
    rw [hgw] at this; exact this
  have HLK := Lib.hid hlk
  have HPL := Lib.hid (fun (W : World) => plus_calls (W.alloc (.cells #[.int .i64 (hiW (getW l k)), .int .u64 (loW (getW l k)), .int .i64 (hiW z), .int .u64 (loW z)] 57)) (.slice (some ⟨W.heap.size, 0, none⟩) 2 2) [getW l k, z] ⟨some ⟨W.heap.size, 0, none⟩, 2, rfl, fun i y hy => by
    have hB := newB W (.cells #[.int .i64 (hiW (getW l k)), .int .u64 (loW (getW l k)), .int .i64 (hiW z), .int .u64 (loW z)] 57)
    have hi : i < 2 := by have := (List.getElem?_eq_some_iff.1 hy).1; simpa using this
    have : i = 0 ∨ i = 1 := by omega
    rcases this with rfl | rfl
    · simp at hy; subst hy
      exact ⟨_, 0, rfl, ltB hB, by rw [cellB hB]; rfl, by rw [cellB hB]; rfl⟩
    · simp at hy; subst hy
      exact ⟨_, 0, rfl, ltB hB, by rw [cellB hB]; rfl, by rw [cellB hB]; rfl⟩⟩ (by simp))
  have H0 := Lib.hid (And.intro hm0 (And.intro hk0 hb0))
  have HZ0 := Lib.hid hz0
  have hbw := ltB h
  clear h hm0 hk0 hz0 hb0 hlk
  unfold nmV wideV
  go_enter Try.func26, Try.ntmps26
  go_wp2_with fail
  refine wp_region_held_drew (S := (fun W => W.heap[w.heap.size]? = some (.cells (nmCells k).toArray 93 (0, 0)) ∧ W.heap[w.heap.size + 1]? = some (.cells #[.int .i64 (hiW z), .int .u64 (loW z)] 57 (0, 0)))) (by kernel_rfl) ⟨H0.out.2.1, HZ0.out⟩ (fun hH => ?_)
  refine wpAnyH_take (i := 0) (oi := { dst := some 6, op := Op.move (Operand.tmp 0), type := 90, pos := "value.go:180", after := #[], guard := none }) (v := ?_) rfl (by kernel_rfl) (by kernel_rfl) (by kernel_rfl) (fun _ _ _ h => h) (Or.inl ⟨by rfl, ?_⟩) hH ?_
  rotate_left
  · intro w' hSw
    obtain ⟨s0, s1⟩ := hSw
    go_simp
    (try with_reducible rfl)
  (try simp only [Act.put, List.setIfInBounds_toArray, List.set_cons_zero, List.set_cons_succ])
  refine wpAnyH_take (i := 1) (oi := { dst := some 7, op := Op.load 93 (Operand.tmp 4), type := 93, pos := "value.go:180", after := #[], guard := none }) (v := .agg (nmCells k).toArray) rfl (by kernel_rfl) (by kernel_rfl) (by kernel_rfl) (fun _ _ _ h => h) (Or.inl ⟨by rfl, ?_⟩) hH ?_
  · intro w' hSw
    obtain ⟨s0, s1⟩ := hSw
    exact exec_load_row _ _ 93 _ rfl w.heap.size rfl _ (load93 s0)
  (try simp only [Act.put, List.setIfInBounds_toArray, List.set_cons_zero, List.set_cons_succ])
  refine wpAnyH_take (i := 2) (oi := { dst := some 8, op := Op.move (Operand.tmp 0), type := 90, pos := "value.go:180", after := #[], guard := none }) (v := ?_) rfl (by kernel_rfl) (by kernel_rfl) (by kernel_rfl) (fun _ _ _ h => h) (Or.inl ⟨by rfl, ?_⟩) hH ?_
  rotate_left
  · intro w' hSw
    obtain ⟨s0, s1⟩ := hSw
    go_simp
    (try with_reducible rfl)
  (try simp only [Act.put, List.setIfInBounds_toArray, List.set_cons_zero, List.set_cons_succ])
  refine wpAnyH_take (i := 3) (oi := { dst := some 9, op := Op.load 93 (Operand.tmp 4), type := 93, pos := "value.go:180", after := #[], guard := none }) (v := .agg (nmCells k).toArray) rfl (by kernel_rfl) (by kernel_rfl) (by kernel_rfl) (fun _ _ _ h => h) (Or.inl ⟨by rfl, ?_⟩) hH ?_
  · intro w' hSw
    obtain ⟨s0, s1⟩ := hSw
    exact exec_load_row _ _ 93 _ rfl w.heap.size rfl _ (load93 s0)
  (try simp only [Act.put, List.setIfInBounds_toArray, List.set_cons_zero, List.set_cons_succ])
  refine wpAnyH_take (i := 5) (oi := { dst := some 11, op := Op.load 57 (Operand.tmp 5), type := 57, pos := "value.go:180", after := #[], guard := none }) (v := .agg #[.int .i64 (hiW z), .int .u64 (loW z)]) rfl (by kernel_rfl) (by kernel_rfl) (by kernel_rfl) (fun _ _ _ h => h) (Or.inl ⟨by rfl, ?_⟩) hH ?_
  · intro w' hSw
    obtain ⟨s0, s1⟩ := hSw
    exact exec_load_row _ _ 57 _ rfl (w.heap.size + 1) rfl _ (load57 s1)
  (try simp only [Act.put, List.setIfInBounds_toArray, List.set_cons_zero, List.set_cons_succ])
  refine wpAnyH_ready (rs := [4]) (by kernel_rfl) (by simp) ?_
  refine AllReadyH.cons (o := { dst := some 10, op := Op.lookup 90 (Operand.tmp 8) (Operand.tmp 9) false, type := 57, pos := "value.go:180", after := #[{ on := 2, ground := Ground.data }, { on := 3, ground := Ground.data }], guard := none }) rfl (fun K hK => ?_) AllReadyH.nil
  have hl4 := HLK.out w0.drew H0.out.2.2
  go_simp
  refine hK.out _ _ ⟨H0.out.2.1, HZ0.out⟩ (fun hH1 => ?_)
  clear hK K hl4
  (try simp only [Act.put, List.setIfInBounds_toArray, List.set_cons_zero, List.set_cons_succ])
  refine wpAnyH_ready (rs := [6]) (by kernel_rfl) (by simp) ?_
  refine AllReadyH.cons (o := { dst := some 12, op := Op.buildSlice 77 2 #[(0, Operand.tmp 10), (1, Operand.tmp 11)], type := 77, pos := "value.go:180", after := #[{ on := 4, ground := Ground.data }, { on := 5, ground := Ground.data }], guard := none }) rfl (fun K hK => ?_) AllReadyH.nil
  go_simp
  refine hK.out _ _ ⟨allocB H0.out.2.1 _, allocB HZ0.out _⟩ (fun hH2 => ?_)
  clear hK K
  (try simp only [Act.put, List.setIfInBounds_toArray, List.set_cons_zero, List.set_cons_succ])
  refine wpAnyH_ready (rs := [7]) (by kernel_rfl) (by simp) ?_
  refine AllReadyH.cons (o := { dst := some 13, op := Op.call { callee := Callee.value (Operand.func 7), args := #[Operand.tmp 12], argTypes := #[77] }, type := 57, pos := "value.go:180", after := #[{ on := 6, ground := Ground.data }], guard := none }) rfl (fun K hK => ?_) AllReadyH.nil
  go_simp
  refine (HPL.out w0.drew).mono ?_
  rintro e w2 ⟨rfl, hm2⟩
  have hb2 : w2.heap[b]? = some (nmap (wv l)) := (hm2.block b (Nat.lt_of_lt_of_le (ltB H0.out.2.2) (by simp)) (fun q => q)).trans (allocB H0.out.2.2 _)
  have hk2 : w2.heap[w.heap.size]? = some (.cells (nmCells k).toArray 93 (0, 0)) := (hm2.block _ (Nat.lt_of_lt_of_le (ltB H0.out.2.1) (by simp)) (fun q => q)).trans (allocB H0.out.2.1 _)
  have hz2 : w2.heap[w.heap.size + 1]? = some (.cells #[.int .i64 (hiW z), .int .u64 (loW z)] 57 (0, 0)) := (hm2.block _ (Nat.lt_of_lt_of_le (ltB HZ0.out) (by simp)) (fun q => q)).trans (allocB HZ0.out _)
  refine hK.out _ _ ⟨hk2, hz2⟩ (fun hH3 => ?_)
  clear hK K
  have hsum : [getW l k, z].sum = getW l k + z := by simp
  rw [hsum]
  have hmu := run_mapUpdateN Try.underlying90 hb2 k (wideV (getW l k + z))
  rw [← wv_up] at hmu
  have hm2' : Mod (fun _ => False) w w2 := (H0.out.1.drew.alloc _).tr hm2
  have H2 := Lib.hid (And.intro hb2 (And.intro hm2' (And.intro hk2 hz2)))
  clear hm2 hb2 hk2 hz2 hm2' hsum
  unfold nmV at hmu
  refine wpAnyH_ready (rs := [8]) (by kernel_rfl) (by simp) ?_
  refine AllReadyH.cons (o := { dst := none, op := Op.mapUpdate 90 (Operand.tmp 6) (Operand.tmp 7) (Operand.tmp 13), type := 0, pos := "value.go:180", after := #[{ on := 0, ground := Ground.data }, { on := 1, ground := Ground.data }, { on := 7, ground := Ground.data }, { on := 7, ground := Ground.chain }, { on := 0, ground := Ground.phase }, { on := 1, ground := Ground.phase }, { on := 2, ground := Ground.phase }, { on := 3, ground := Ground.phase }, { on := 4, ground := Ground.phase }, { on := 5, ground := Ground.phase }, { on := 6, ground := Ground.phase }, { on := 7, ground := Ground.phase }], guard := none }) rfl (fun K hK => ?_) AllReadyH.nil
  go_simp
  refine hK.out _ _ ⟨(heap_layObj_other (by omega) _).trans H2.out.2.2.1, (heap_layObj_other (by omega) _).trans H2.out.2.2.2⟩ (fun _ => ?_)
  refine wpAnyH_done (by kernel_rfl) ?_ _
  go_returns
  exact ⟨rfl, heap_layObj_same (ltB H2.out.1) _, Mod_layObj (S := fun j => j = b) H2.out.2.1.any (fun _ => rfl) _⟩
end Go.Proofs.Ytckcamlicgdklaa
