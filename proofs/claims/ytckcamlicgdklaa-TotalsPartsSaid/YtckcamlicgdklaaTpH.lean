/- The function that book.totals hands to slices.SortFunc. -/
import Derived.Test.YtckcamlicgdklaaTpG
namespace Go.Proofs.Ytckcamlicgdklaa
open Go.RowKit Go.Mo Go.Sort

/-- A total: a name, a wide number. -/
def totCells (x : Nm × Int) : List Value := nmCells x.1 ++ [.int .i64 (hiW x.2), .int .u64 (loW x.2)]
theorem tot_policy {w : World} {g : Nat} {x : Nm × Int} {T : TypeId} (h : w.heap[g]? = some (.cells (totCells x).toArray T (0, 0))) : (loadVar 27 ⟨g, 0, none⟩).run Try.prog w = .ok (.agg (x.1.policy.map by8).toArray) w :=
  run_loadVar_mid w g 0 27 (x.1.policy.map by8) _ (fun j v hv => by
      rw [Nat.zero_add, cellB h]
      have hj : j < (x.1.policy.map by8).length := (List.getElem?_eq_some_iff.1 hv).1
      simp only [totCells, nmCells, List.getElem?_toArray, List.append_assoc]
      rw [List.getElem?_append_left hj]; exact hv) Try.underlying27 rfl (by rw [size27]; simp [x.1.len])
theorem tot_name {w : World} {g : Nat} {x : Nm × Int} {T : TypeId} (h : w.heap[g]? = some (.cells (totCells x).toArray T (0, 0))) : w.cell? ⟨g, 32, none⟩ = some (.string ⟨x.1.name.toArray⟩) := by
  rw [cellB h]
  have := x.1.len
  simp [totCells, nmCells, this]
set_option maxRecDepth 100000 in
set_option maxHeartbeats 1000000 in
theorem less_calls (x y : Nm × Int) (w : World) : Calls Try.prog 36 #[.agg (totCells x).toArray, .agg (totCells y).toArray] w fun e w' => e = .returned (.int .i64 (ordN x.1 y.1)) ∧ Gr w w' := by
  obtain ⟨w0, hw0⟩ : ∃ w0, (w.alloc (.cells (totCells x).toArray 88)).alloc (.cells (totCells y).toArray 88) = w0 := ⟨_, rfl⟩
  have hg0 : Gr w w0 := by rw [← hw0]; exact ((Gr.refl w).alloc _).alloc _
  have ha0 : w0.heap[w.heap.size]? = some (.cells (totCells x).toArray 88 (0, 0)) := by rw [← hw0]; exact allocB (newB w _) _
  have hb0 : w0.heap[w.heap.size + 1]? = some (.cells (totCells y).toArray 88 (0, 0)) := by
    rw [← hw0]; have := newB (w.alloc (.cells (totCells x).toArray 88)) (.cells (totCells y).toArray 88); rwa [World.size_alloc] at this
  have HP := Lib.hid (And.intro (tot_policy ha0) (tot_policy hb0))
  have s0 := tot_name ha0
  have s1 := tot_name hb0
  have HO := Lib.hid (order_calls x.1 y.1 w0)
  have H := Lib.hid hg0
  clear hg0 ha0 hb0
  go_enter Try.func36, Try.ntmps36
  go_wp2_with (first
    | (refine wpList_exec rfl (exec_load_row _ _ 27 _ rfl w.heap.size rfl _ HP.out.1) ?_)
    | (refine wpList_exec rfl (exec_load_row _ _ 27 _ rfl (w.heap.size + 1) rfl _ HP.out.2) ?_)
    | (refine wpList_exec rfl (exec_build93 _ _ rfl x.1 rfl rfl) ?_)
    | (refine wpList_exec rfl (exec_build93 _ _ rfl y.1 rfl rfl) ?_)
    | (go_at_call 37; refine HO.out.mono ?_; rintro e w' ⟨rfl, hg⟩))
  go_ret
  exact ⟨rfl, H.out.trans hg⟩
end Go.Proofs.Ytckcamlicgdklaa
