/- Builds of rows, whatever the type; entry at two closed inputs. PRINTED BY A PROGRAM OF MY OWN. -/
import Derived.Test.YtckcamlicgdklaaTpEq
import Derived.Test.YtckcamlicgdklaaTpY
import Derived.Test.YtckcamlicgdklaaTpS
import Derived.Test.YtckcamlicgdklaaRdA
import Derived.Great.FillDense
namespace Go.Proofs.Ytckcamlicgdklaa
open Go.RowKit Go.Mo Go.Sort

theorem exec_buildL (act : Act) (o : Oper) {w : World} {T : TypeId} (ps : List (Nat × Operand)) (ho : o.op = .build T ps.toArray) (vals : List (Nat × Value)) (hv : ps.map (fun p => (p.1, act.eval p.2)) = vals) (cs : Array Value) (hb : Try.prog.built T vals = some cs) :
    (execOp act.eval o).run Try.prog w = .ok (.value (.agg cs)) w := by
  have h := run_build (P := Try.prog) w T vals.toArray cs (by simpa using hb)
  unfold execOp
  simp only [ho, List.map_toArray, hv, Sem.run_bind, Sem.run_pure, h, Result.andThen_ok]
theorem exec_slicesL (act : Act) (o : Oper) {w : World} {S E : TypeId} {n s : Nat} (ps : List (Nat × Operand)) (ho : o.op = .buildSlice S n ps.toArray) (vs : List Value) (hv : ps.map (fun p => (p.1, act.eval p.2)) = (vs.zipIdx 0).map fun x => (x.2, x.1))
    {i : TypeInfo} {z : Value} (hu : Try.prog.underlying S = some (.slice E)) (hi : Try.prog.info? E = some i) (hz : i.zero = some z) (hs : i.size = s) (hpos : 0 < s) (hn : vs.length = n) (hpn : 0 < n) (h24 : n * s ≤ 16777216) (h1 : ∀ v ∈ vs, v.cells.size = s) :
    (execOp act.eval o).run Try.prog w = .ok (.value (.slice (some ⟨w.heap.size, 0, none⟩) n n)) (w.alloc (.cells (vs.flatMap fun v => v.cells.toList).toArray E)) := by
  have hp : 0 < n * s := Nat.mul_pos hpn hpos
  have hf := Go.Great.fill_whole hpos vs ((Array.range (n * s)).map (z.cells[· % z.cells.size]!)) h1 (by simp [hn])
  have h := run_buildSlice (P := Try.prog) w S E n ((vs.zipIdx 0).map fun x => (x.2, x.1)).toArray (vs.flatMap fun v => v.cells.toList).toArray i z hu hi hz (by rw [hs]; omega) (by rw [hs]; omega) (by rw [hs]; simpa using hf)
  unfold execOp
  simp only [ho, List.map_toArray, hv, Sem.run_bind, Sem.run_pure, h, Result.andThen_ok]

/-- The entry of so many coins, of a key of a number. -/
def hashE (n : Nat) : Bs := UInt8.ofNat n :: List.replicate 31 0
def entE (n : Nat) (c : Int) : Ent where
  pre := List.replicate 32 (.int .u8 0) ++ [.int .i64 n]
  addr := ⟨false, hashE n, rfl⟩
  val := ⟨c, []⟩
  post := .int .i64 0 :: (List.replicate 32 (.int .u8 0) ++ [.slice none 0 0])
  hpre := rfl
  hpost := rfl
  ones := by
    intro u hu
    simp only [List.mem_append, List.mem_cons, List.mem_replicate, List.not_mem_nil, or_false] at hu
    rcases hu with (⟨_, rfl⟩ | rfl) | rfl | ⟨_, rfl⟩ | rfl <;> rfl
theorem res15 {tmps : Array Value} {b : Nat} {W : World} {v : Value} (ht : tmps[4]?.getD undef = .pointer (some ⟨b, 0, none⟩)) (hl : (loadVar 51 ⟨b, 0, none⟩).run Try.prog W = .ok v W) : (results Try.f15 tmps).run Try.prog W = .ok v W := by
  simp [results, Try.results15, ht, hl, asAddr]
set_option maxRecDepth 100000 in
theorem entry1_calls (w : World) : Calls Try.prog 15 #[.int .i64 1, .int .i64 5] w fun e w' => e = .returned (.agg (entCells (entE 1 5) none 0).toArray) ∧ Mod (fun _ => False) w w' := by
  obtain ⟨z51, hz51, hs51⟩ := zv51
  have hst : (storeVar 51 ⟨w.heap.size, 0, none⟩ (.agg (entCells (entE 1 5) none 0).toArray)).run Try.prog (w.alloc (.cells z51 51)) = .ok () ((w.alloc (.cells z51 51)).setRow w.heap.size (entCells (entE 1 5) none 0).toArray) :=
    run_storeVar_row (P := Try.prog) _ w.heap.size 51 51 z51 (entCells (entE 1 5) none 0).toArray (newB w _) (by rw [size51]; simp [entCells_length]) (by rw [hs51]; simp [entCells_length]) (entCells_one _ _ _)
  have hR := setRow_same (cs := (entCells (entE 1 5) none 0).toArray) (newB w (.cells z51 51))
  have hmr : Mod (fun _ => False) w ((w.alloc (.cells z51 51)).setRow w.heap.size (entCells (entE 1 5) none 0).toArray) := Mod_setRow ((Mod.refl _ w).alloc (.cells z51 51)) (b := w.heap.size) (fun q => by omega) _
  generalize (w.alloc (.cells z51 51)).setRow w.heap.size (entCells (entE 1 5) none 0).toArray = w2 at hst hR hmr
  have hld : (loadVar 51 ⟨w.heap.size, 0, none⟩).run Try.prog w2 = .ok (.agg (entCells (entE 1 5) none 0).toArray) w2 :=
    run_loadVar_mid w2 w.heap.size 0 51 (entCells (entE 1 5) none 0) _ (fun j v hv => by rw [Nat.zero_add, cellB hR, List.getElem?_toArray]; exact hv) Try.underlying51 rfl (by rw [size51, entCells_length])
  have HST := Lib.hid (And.intro hst (And.intro hld hmr))
  have HZ := Lib.hid hz51
  clear hst hld hmr hR hz51 hs51
  go_enter Try.func15, Try.ntmps15
  go_upto_region 0 with fail
  refine wp_region_lit ?_
  refine wpList_execW rfl (exec_alloc _ _ 51 z51 rfl HZ.out) ?_
  (try simp only [Act.put, List.setIfInBounds_toArray, List.set_cons_zero, List.set_cons_succ])
  go_upto_region 1 with fail
  refine wp_region_lit ?_
  refine wpList_exec (v := .int .i64 1) rfl (by go_simp) ?_
  (try simp only [Act.put, List.setIfInBounds_toArray, List.set_cons_zero, List.set_cons_succ])
  refine wpList_exec rfl (exec_buildL _ _ [(1, .tmp 5)] rfl [(1, .int .i64 1)] rfl ((entE 1 5).pre.toArray) (by kernel_rfl)) ?_
  (try simp only [Act.put, List.setIfInBounds_toArray, List.set_cons_zero, List.set_cons_succ])
  refine wpList_exec (v := .int .i64 1) rfl (by go_simp) ?_
  (try simp only [Act.put, List.setIfInBounds_toArray, List.set_cons_zero, List.set_cons_succ])
  refine wpList_exec (v := .int .u8 1) rfl (by go_simp; rfl) ?_
  (try simp only [Act.put, List.setIfInBounds_toArray, List.set_cons_zero, List.set_cons_succ])
  refine wpList_exec rfl (exec_buildL _ _ [(0, .tmp 8)] rfl [(0, .int .u8 1)] rfl (((hashE 1).map by8).toArray) (by kernel_rfl)) ?_
  (try simp only [Act.put, List.setIfInBounds_toArray, List.set_cons_zero, List.set_cons_succ])
  refine wpList_exec rfl (exec_buildL _ _ [(1, .tmp 9)] rfl [(1, .agg ((hashE 1).map by8).toArray)] rfl ((adrCells (entE 1 5).addr).toArray) (by kernel_rfl)) ?_
  (try simp only [Act.put, List.setIfInBounds_toArray, List.set_cons_zero, List.set_cons_succ])
  refine wpList_exec (v := .int .i64 5) rfl (by go_simp) ?_
  (try simp only [Act.put, List.setIfInBounds_toArray, List.set_cons_zero, List.set_cons_succ])
  refine wpList_exec rfl (exec_buildL _ _ [(0, .tmp 11)] rfl [(0, .int .i64 5)] rfl (#[.int .i64 5, .slice none 0 0]) (by kernel_rfl)) ?_
  (try simp only [Act.put, List.setIfInBounds_toArray, List.set_cons_zero, List.set_cons_succ])
  refine wpList_exec rfl (exec_buildL _ _ [(0, .tmp 10), (1, .tmp 12)] rfl [(0, .agg (adrCells (entE 1 5).addr).toArray), (1, .agg #[.int .i64 5, .slice none 0 0])] rfl ((outCells (entE 1 5) none 0).toArray) (by kernel_rfl)) ?_
  (try simp only [Act.put, List.setIfInBounds_toArray, List.set_cons_zero, List.set_cons_succ])
  refine wpList_exec rfl (exec_buildL _ _ [(0, .tmp 6), (1, .tmp 13)] rfl [(0, .agg (entE 1 5).pre.toArray), (1, .agg (outCells (entE 1 5) none 0).toArray)] rfl ((entCells (entE 1 5) none 0).toArray) (by kernel_rfl)) ?_
  (try simp only [Act.put, List.setIfInBounds_toArray, List.set_cons_zero, List.set_cons_succ])
  refine wpList_execS rfl (exec_store _ _ rfl rfl rfl HST.out.1) ?_
  (try simp only [Act.put])
  go_wp2_with fail
  exact bodyPost_ret (v := .agg (entCells (entE 1 5) none 0).toArray) (res15 rfl HST.out.2.1) rfl ⟨rfl, HST.out.2.2⟩
set_option maxRecDepth 100000 in
theorem entry2_calls (w : World) : Calls Try.prog 15 #[.int .i64 2, .int .i64 6] w fun e w' => e = .returned (.agg (entCells (entE 2 6) none 0).toArray) ∧ Mod (fun _ => False) w w' := by
  obtain ⟨z51, hz51, hs51⟩ := zv51
  have hst : (storeVar 51 ⟨w.heap.size, 0, none⟩ (.agg (entCells (entE 2 6) none 0).toArray)).run Try.prog (w.alloc (.cells z51 51)) = .ok () ((w.alloc (.cells z51 51)).setRow w.heap.size (entCells (entE 2 6) none 0).toArray) :=
    run_storeVar_row (P := Try.prog) _ w.heap.size 51 51 z51 (entCells (entE 2 6) none 0).toArray (newB w _) (by rw [size51]; simp [entCells_length]) (by rw [hs51]; simp [entCells_length]) (entCells_one _ _ _)
  have hR := setRow_same (cs := (entCells (entE 2 6) none 0).toArray) (newB w (.cells z51 51))
  have hmr : Mod (fun _ => False) w ((w.alloc (.cells z51 51)).setRow w.heap.size (entCells (entE 2 6) none 0).toArray) := Mod_setRow ((Mod.refl _ w).alloc (.cells z51 51)) (b := w.heap.size) (fun q => by omega) _
  generalize (w.alloc (.cells z51 51)).setRow w.heap.size (entCells (entE 2 6) none 0).toArray = w2 at hst hR hmr
  have hld : (loadVar 51 ⟨w.heap.size, 0, none⟩).run Try.prog w2 = .ok (.agg (entCells (entE 2 6) none 0).toArray) w2 :=
    run_loadVar_mid w2 w.heap.size 0 51 (entCells (entE 2 6) none 0) _ (fun j v hv => by rw [Nat.zero_add, cellB hR, List.getElem?_toArray]; exact hv) Try.underlying51 rfl (by rw [size51, entCells_length])
  have HST := Lib.hid (And.intro hst (And.intro hld hmr))
  have HZ := Lib.hid hz51
  clear hst hld hmr hR hz51 hs51
  go_enter Try.func15, Try.ntmps15
  go_upto_region 0 with fail
  refine wp_region_lit ?_
  refine wpList_execW rfl (exec_alloc _ _ 51 z51 rfl HZ.out) ?_
  (try simp only [Act.put, List.setIfInBounds_toArray, List.set_cons_zero, List.set_cons_succ])
  go_upto_region 1 with fail
  refine wp_region_lit ?_
  refine wpList_exec (v := .int .i64 2) rfl (by go_simp) ?_
  (try simp only [Act.put, List.setIfInBounds_toArray, List.set_cons_zero, List.set_cons_succ])
  refine wpList_exec rfl (exec_buildL _ _ [(1, .tmp 5)] rfl [(1, .int .i64 2)] rfl ((entE 2 6).pre.toArray) (by kernel_rfl)) ?_
  (try simp only [Act.put, List.setIfInBounds_toArray, List.set_cons_zero, List.set_cons_succ])
  refine wpList_exec (v := .int .i64 2) rfl (by go_simp) ?_
  (try simp only [Act.put, List.setIfInBounds_toArray, List.set_cons_zero, List.set_cons_succ])
  refine wpList_exec (v := .int .u8 2) rfl (by go_simp; rfl) ?_
  (try simp only [Act.put, List.setIfInBounds_toArray, List.set_cons_zero, List.set_cons_succ])
  refine wpList_exec rfl (exec_buildL _ _ [(0, .tmp 8)] rfl [(0, .int .u8 2)] rfl (((hashE 2).map by8).toArray) (by kernel_rfl)) ?_
  (try simp only [Act.put, List.setIfInBounds_toArray, List.set_cons_zero, List.set_cons_succ])
  refine wpList_exec rfl (exec_buildL _ _ [(1, .tmp 9)] rfl [(1, .agg ((hashE 2).map by8).toArray)] rfl ((adrCells (entE 2 6).addr).toArray) (by kernel_rfl)) ?_
  (try simp only [Act.put, List.setIfInBounds_toArray, List.set_cons_zero, List.set_cons_succ])
  refine wpList_exec (v := .int .i64 6) rfl (by go_simp) ?_
  (try simp only [Act.put, List.setIfInBounds_toArray, List.set_cons_zero, List.set_cons_succ])
  refine wpList_exec rfl (exec_buildL _ _ [(0, .tmp 11)] rfl [(0, .int .i64 6)] rfl (#[.int .i64 6, .slice none 0 0]) (by kernel_rfl)) ?_
  (try simp only [Act.put, List.setIfInBounds_toArray, List.set_cons_zero, List.set_cons_succ])
  refine wpList_exec rfl (exec_buildL _ _ [(0, .tmp 10), (1, .tmp 12)] rfl [(0, .agg (adrCells (entE 2 6).addr).toArray), (1, .agg #[.int .i64 6, .slice none 0 0])] rfl ((outCells (entE 2 6) none 0).toArray) (by kernel_rfl)) ?_
  (try simp only [Act.put, List.setIfInBounds_toArray, List.set_cons_zero, List.set_cons_succ])
  refine wpList_exec rfl (exec_buildL _ _ [(0, .tmp 6), (1, .tmp 13)] rfl [(0, .agg (entE 2 6).pre.toArray), (1, .agg (outCells (entE 2 6) none 0).toArray)] rfl ((entCells (entE 2 6) none 0).toArray) (by kernel_rfl)) ?_
  (try simp only [Act.put, List.setIfInBounds_toArray, List.set_cons_zero, List.set_cons_succ])
  refine wpList_execS rfl (exec_store _ _ rfl rfl rfl HST.out.1) ?_
  (try simp only [Act.put])
  go_wp2_with fail
  exact bodyPost_ret (v := .agg (entCells (entE 2 6) none 0).toArray) (res15 rfl HST.out.2.1) rfl ⟨rfl, HST.out.2.2⟩
end Go.Proofs.Ytckcamlicgdklaa
