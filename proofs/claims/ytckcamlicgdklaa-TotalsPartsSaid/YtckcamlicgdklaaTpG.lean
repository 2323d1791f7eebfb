/- The order of names: bytes.Compare, cmp.Or, name.order, the function handed to slices.SortFunc. PRINTED BY A PROGRAM OF MY OWN. -/
import Derived.Test.YtckcamlicgdklaaTpF
import Derived.Test.YtckcamlicgdklaaS1
import Derived.Lib.BytesEntry
import Derived.Sort.Grow
namespace Go.Proofs.Ytckcamlicgdklaa
open Go.RowKit Go.Mo Go.Sort

/-- w' is w with draws and new blocks behind it. -/
def Gr (w w' : World) : Prop := ∃ q os, w' = grow (w.drewN q) os
theorem Gr.refl (w : World) : Gr w w := ⟨0, #[], by simp; rfl⟩
theorem Gr.drew {a w : World} (h : Gr a w) : Gr a w.drew := by
  obtain ⟨q, os, rfl⟩ := h
  exact ⟨q + 1, os, rfl⟩
theorem Gr.drewN {a w : World} (h : Gr a w) (n : Nat) : Gr a (w.drewN n) := by
  obtain ⟨q, os, rfl⟩ := h
  exact ⟨q + n, os, by simp [grow, World.drewN, Nat.add_assoc]⟩
theorem Gr.alloc {a w : World} (h : Gr a w) (o : Obj) : Gr a (w.alloc o) := by
  obtain ⟨q, os, rfl⟩ := h
  exact ⟨q, _, by rw [alloc_eq_grow, grow_grow]⟩
theorem Gr.trans {a w w' : World} (h : Gr a w) (k : Gr w w') : Gr a w' := by
  obtain ⟨q, os, rfl⟩ := h
  obtain ⟨q', os', rfl⟩ := k
  refine ⟨q + q', os ++ os', ?_⟩
  rw [← grow_grow]
  simp [grow, World.drewN, Nat.add_assoc]
theorem Gr.mod {w w' : World} (h : Gr w w') : Mod (fun _ => False) w w' := by
  obtain ⟨q, os, rfl⟩ := h
  exact ⟨rfl, rfl, rfl, by simp [grow, World.drewN], fun k hk _ => by simp [grow, World.drewN, Array.getElem?_append, hk]⟩

theorem run_loadB (w : World) (l : Bs) (b o n : Nat) (acc : ByteArray) (hn : l.length = n) (h : ∀ j x, l[j]? = some x → w.cell? ⟨b, o + j, none⟩ = some (.int .u8 x.toNat)) :
    (Extern.Bytes.loadBytes ⟨b, o, none⟩ n acc).run Try.prog w = .ok ⟨acc.data ++ l.toArray⟩ w := by
  have hb : ∀ l : Bs, Lib.bytesOf (l.map fun x => ((x.toNat : Nat) : Int)) = l := fun l => by
    induction l with
    | nil => rfl
    | cons x l ih => simp [Lib.bytesOf] at ih ⊢; exact ih
  have := Lib.run_loadBytesX (P := Try.prog) w (l.map fun x => ((x.toNat : Nat) : Int)) ⟨b, o, none⟩ acc (fun j x hj => by
    have e : (⟨b, o, none⟩ : Addr).add j = ⟨b, o + j, none⟩ := by unfold Addr.add; split <;> simp_all
    rw [e]
    rw [List.getElem?_map] at hj
    cases hl : l[j]? with
    | none => rw [hl] at hj; cases hj
    | some y => rw [hl] at hj; cases hj; exact h j y hl)
  rw [List.length_map, hn, hb] at this
  exact this
theorem bcmp_call (w : World) (b1 o1 c1 b2 o2 c2 n m : Nat) (p q : Bs) (hn : p.length = n) (hm : q.length = m)
    (hp : ∀ j x, p[j]? = some x → w.cell? ⟨b1, o1 + j, none⟩ = some (.int .u8 x.toNat)) (hq : ∀ j x, q[j]? = some x → w.cell? ⟨b2, o2 + j, none⟩ = some (.int .u8 x.toNat)) :
    (callFunc 59 #[.slice (some ⟨b1, o1, none⟩) n c1, .slice (some ⟨b2, o2, none⟩) m c2]).run Try.prog w = .ok (.value (.int .i64 (Lib.compareBytes p q))) w := by
  rw [run_callFunc_extern (fn := Try.f59) (e := Extern.BytealgCompare.compare) (by kernel_rfl) (by kernel_rfl) (by kernel_rfl) (by kernel_rfl) (by kernel_rfl)]
  have e : (Extern.BytealgCompare.compare #[.slice (some ⟨b1, o1, none⟩) n c1, .slice (some ⟨b2, o2, none⟩) m c2]).run Try.prog w = .ok (.int .i64 (Lib.compareBytes p q)) w := by
    change Sem.run Try.prog (do pure (goInt (Extern.BytealgCompare.cmp (← Extern.Bytes.loadBytes ⟨b1, o1, none⟩ n .empty) (← Extern.Bytes.loadBytes ⟨b2, o2, none⟩ m .empty)))) w = _
    simp only [Sem.run_bind, run_loadB w p b1 o1 n .empty hn hp, run_loadB w q b2 o2 m .empty hm hq, Result.andThen, Sem.run_pure]
    rw [Lib.cmp_eq]
    have z : ∀ l : Bs, ((⟨ByteArray.empty.data ++ l.toArray⟩ : ByteArray).data).toList = l := fun l => by simp [ByteArray.empty, ByteArray.emptyWithCapacity] <;> rfl
    rw [z, z]
    rfl
  rw [e]
  rfl
theorem bcmp_calls (w : World) (b1 o1 c1 b2 o2 c2 n m : Nat) (p q : Bs) (hn : p.length = n) (hm : q.length = m)
    (hp : ∀ j x, p[j]? = some x → w.cell? ⟨b1, o1 + j, none⟩ = some (.int .u8 x.toNat)) (hq : ∀ j x, q[j]? = some x → w.cell? ⟨b2, o2 + j, none⟩ = some (.int .u8 x.toNat)) :
    Calls Try.prog 44 #[.slice (some ⟨b1, o1, none⟩) n c1, .slice (some ⟨b2, o2, none⟩) m c2] w fun e w' => e = .returned (.int .i64 (Lib.compareBytes p q)) ∧ w = w' := by
  have hc := bcmp_call w b1 o1 c1 b2 o2 c2 n m p q hn hm hp hq
  clear hp hq
  go_enter Try.func44, Try.ntmps44
  go_wp2_with fail
  go_ret
  exact ⟨rfl, rfl⟩

def orI (x y : Int) : Int := if x = 0 then y else x
theorem or_calls (w : World) (b : Nat) (x y : Int) (T : TypeId) (h : w.heap[b]? = some (.cells #[.int .i64 x, .int .i64 y] T (0, 0))) :
    Calls Try.prog 43 #[.slice (some ⟨b, 0, none⟩) 2 2] w fun e w' => e = .returned (.int .i64 (orI x y)) ∧ w = w' := by
  have c0 : w.cell? ⟨b, 0, none⟩ = some (.int .i64 x) := (cellB h 0).trans rfl
  have c1 : w.cell? ⟨b, 1, none⟩ = some (.int .i64 y) := (cellB h 1).trans rfl
  clear h
  go_enter Try.func43, Try.ntmps43
  go_wp2_with fail
  go_loopw [8] (fun i wr => wr = w ∧ (i = .int .i64 0 ∨ i = .int .i64 1 ∧ x = 0 ∨ i = .int .i64 2 ∧ x = 0 ∧ y = 0)) (fun i _ => 2 - (intOf i).toNat)
  case atStart => exact ⟨rfl, .inl rfl⟩
  case round =>
    obtain ⟨rfl, rfl | ⟨rfl, hx⟩ | ⟨rfl, hx, hy⟩⟩ := hrel
    · by_cases hx : x = 0
      · have k0 : (x != 0) = false := by simp [hx]
        go_wp2_with fail
        go_roundw
        case rel => exact ⟨trivial, .inr (.inl ⟨rfl, hx⟩)⟩
        case measure => simp [intOf]
      · have k0 : (x != 0) = true := by simp [hx]
        go_wp2_with fail
        go_ret
        exact ⟨by simp [orI, hx], rfl⟩
    · by_cases hy : y = 0
      · have k0 : (y != 0) = false := by simp [hy]
        go_wp2_with fail
        go_roundw
        case rel => exact ⟨trivial, .inr (.inr ⟨rfl, hx, hy⟩)⟩
        case measure => simp [intOf]
      · have k0 : (y != 0) = true := by simp [hy]
        go_wp2_with fail
        go_ret
        exact ⟨by simp [orI, hx], rfl⟩
    · go_wp2_with fail
      go_ret
      exact ⟨by simp [orI, hx, hy], rfl⟩

/-- The order of names: -1, 0, 1. -/
def ordN (a b : Nm) : Int := orI (Lib.compareBytes a.policy b.policy) (Lib.compareBytes a.name b.name)
theorem cellN {w : World} {g : Nat} {k : Nm} (h : w.heap[g]? = some (.cells (nmCells k).toArray 93 (0, 0))) : w.cell? ⟨g, 32, none⟩ = some (.string ⟨k.name.toArray⟩) := by
  rw [cellB h]
  simp [nmCells, k.len]
theorem cellP {w : World} {g : Nat} {k : Nm} (h : w.heap[g]? = some (.cells (nmCells k).toArray 93 (0, 0))) (j : Nat) (x : UInt8) (hj : k.policy[j]? = some x) : w.cell? ⟨g, 0 + j, none⟩ = some (.int .u8 x.toNat) := by
  rw [Nat.zero_add, cellB h]
  have : j < k.policy.length := (List.getElem?_eq_some_iff.1 hj).1
  simp only [nmCells, List.getElem?_toArray]
  rw [List.getElem?_append_left (by simpa using this), List.getElem?_map, hj]
  rfl
set_option maxHeartbeats 1000000 in
theorem order_calls (a b : Nm) (w : World) : Calls Try.prog 37 #[nmV a, nmV b] w fun e w' => e = .returned (.int .i64 (ordN a b)) ∧ Gr w w' := by
  obtain ⟨w0, hw0⟩ : ∃ w0, (w.alloc (.cells (nmCells a).toArray 93)).alloc (.cells (nmCells b).toArray 93) = w0 := ⟨_, rfl⟩
  have hg0 : Gr w w0 := by rw [← hw0]; exact ((Gr.refl w).alloc _).alloc _
  have ha0 : w0.heap[w.heap.size]? = some (.cells (nmCells a).toArray 93 (0, 0)) := by rw [← hw0]; exact allocB (newB w _) _
  have hb0 : w0.heap[w.heap.size + 1]? = some (.cells (nmCells b).toArray 93 (0, 0)) := by
    rw [← hw0]; have := newB (w.alloc (.cells (nmCells a).toArray 93)) (.cells (nmCells b).toArray 93); rwa [World.size_alloc] at this
  have HC := Lib.hid (bcmp_calls w0.drew w.heap.size 0 32 (w.heap.size + 1) 0 32 32 32 a.policy b.policy a.len b.len (cellP ha0) (cellP hb0))
  have HS := Lib.hid (Try.strings_Compare ⟨a.name.toArray⟩ ⟨b.name.toArray⟩ w0.drew)
  have HO := Lib.hid (fun x y => or_calls (w0.drew.alloc (.cells #[.int .i64 x, .int .i64 y] 3)) w0.heap.size x y 3 (newB w0.drew _))
  have H := Lib.hid (And.intro hg0 (And.intro ha0 hb0))
  clear hg0 ha0 hb0
  unfold nmV
  go_enter Try.func37, Try.ntmps37
  go_wp2_with fail
  refine wp_region_held_drew (S := (fun W => W.heap[w.heap.size]? = some (.cells (nmCells a).toArray 93 (0, 0)) ∧ W.heap[w.heap.size + 1]? = some (.cells (nmCells b).toArray 93 (0, 0)))) (by kernel_rfl) H.out.2 (fun hH => ?_)
  refine wpAnyH_take (i := 0) (oi := { dst := some 5, op := Op.fieldAddr 93 (Operand.tmp 2) 0, type := 0, pos := "value.go:23", after := #[], guard := none }) (v := .pointer (some ⟨w.heap.size, 0, none⟩)) rfl (by kernel_rfl) (by kernel_rfl) (by kernel_rfl) (fun _ _ _ h => h) (Or.inl ⟨by rfl, ?_⟩) hH ?_
  · intro w' hSw
    obtain ⟨s0, s1⟩ := hSw
    go_simp
    try with_reducible rfl
  (try simp only [Act.put, List.setIfInBounds_toArray, List.set_cons_zero, List.set_cons_succ])
  refine wpAnyH_take (i := 1) (oi := { dst := some 6, op := Op.slice 27 (Operand.tmp 5) none none none, type := 134, pos := "value.go:23", after := #[{ on := 0, ground := Ground.data }], guard := none }) (v := .slice (some ⟨w.heap.size, 0, none⟩) 32 32) rfl (by kernel_rfl) (by kernel_rfl) (by kernel_rfl) (fun _ _ _ h => h) (Or.inl ⟨by rfl, ?_⟩) hH ?_
  · intro w' hSw
    obtain ⟨s0, s1⟩ := hSw
    go_simp
    try with_reducible rfl
  (try simp only [Act.put, List.setIfInBounds_toArray, List.set_cons_zero, List.set_cons_succ])
  refine wpAnyH_take (i := 2) (oi := { dst := some 7, op := Op.fieldAddr 93 (Operand.tmp 3) 0, type := 0, pos := "value.go:23", after := #[], guard := none }) (v := .pointer (some ⟨w.heap.size + 1, 0, none⟩)) rfl (by kernel_rfl) (by kernel_rfl) (by kernel_rfl) (fun _ _ _ h => h) (Or.inl ⟨by rfl, ?_⟩) hH ?_
  · intro w' hSw
    obtain ⟨s0, s1⟩ := hSw
    go_simp
    try with_reducible rfl
  (try simp only [Act.put, List.setIfInBounds_toArray, List.set_cons_zero, List.set_cons_succ])
  refine wpAnyH_take (i := 3) (oi := { dst := some 8, op := Op.slice 27 (Operand.tmp 7) none none none, type := 134, pos := "value.go:23", after := #[{ on := 2, ground := Ground.data }], guard := none }) (v := .slice (some ⟨w.heap.size + 1, 0, none⟩) 32 32) rfl (by kernel_rfl) (by kernel_rfl) (by kernel_rfl) (fun _ _ _ h => h) (Or.inl ⟨by rfl, ?_⟩) hH ?_
  · intro w' hSw
    obtain ⟨s0, s1⟩ := hSw
    go_simp
    try with_reducible rfl
  (try simp only [Act.put, List.setIfInBounds_toArray, List.set_cons_zero, List.set_cons_succ])
  refine wpAnyH_take (i := 5) (oi := { dst := some 10, op := Op.fieldAddr 93 (Operand.tmp 2) 1, type := 0, pos := "value.go:23", after := #[], guard := none }) (v := .pointer (some ⟨w.heap.size, 32, none⟩)) rfl (by kernel_rfl) (by kernel_rfl) (by kernel_rfl) (fun _ _ _ h => h) (Or.inl ⟨by rfl, ?_⟩) hH ?_
  · intro w' hSw
    obtain ⟨s0, s1⟩ := hSw
    go_simp
    try with_reducible rfl
  (try simp only [Act.put, List.setIfInBounds_toArray, List.set_cons_zero, List.set_cons_succ])
  refine wpAnyH_take (i := 6) (oi := { dst := some 11, op := Op.load 9 (Operand.tmp 10), type := 9, pos := "value.go:23", after := #[{ on := 5, ground := Ground.data }], guard := none }) (v := .string ⟨a.name.toArray⟩) rfl (by kernel_rfl) (by kernel_rfl) (by kernel_rfl) (fun _ _ _ h => h) (Or.inl ⟨by rfl, ?_⟩) hH ?_
  · intro w' hSw
    have s0 := hSw.1
    have s32 := cellN s0
    go_simp
    try with_reducible rfl
  (try simp only [Act.put, List.setIfInBounds_toArray, List.set_cons_zero, List.set_cons_succ])
  refine wpAnyH_take (i := 7) (oi := { dst := some 12, op := Op.fieldAddr 93 (Operand.tmp 3) 1, type := 0, pos := "value.go:23", after := #[], guard := none }) (v := .pointer (some ⟨w.heap.size + 1, 32, none⟩)) rfl (by kernel_rfl) (by kernel_rfl) (by kernel_rfl) (fun _ _ _ h => h) (Or.inl ⟨by rfl, ?_⟩) hH ?_
  · intro w' hSw
    obtain ⟨s0, s1⟩ := hSw
    go_simp
    try with_reducible rfl
  (try simp only [Act.put, List.setIfInBounds_toArray, List.set_cons_zero, List.set_cons_succ])
  refine wpAnyH_take (i := 8) (oi := { dst := some 13, op := Op.load 9 (Operand.tmp 12), type := 9, pos := "value.go:23", after := #[{ on := 7, ground := Ground.data }], guard := none }) (v := .string ⟨b.name.toArray⟩) rfl (by kernel_rfl) (by kernel_rfl) (by kernel_rfl) (fun _ _ _ h => h) (Or.inl ⟨by rfl, ?_⟩) hH ?_
  · intro w' hSw
    have s1 := hSw.2
    have s32 := cellN s1
    go_simp
    try with_reducible rfl
  (try simp only [Act.put, List.setIfInBounds_toArray, List.set_cons_zero, List.set_cons_succ])
  refine wpAnyH_ready (rs := [4]) (by kernel_rfl) (by simp) ?_
  refine AllReadyH.cons (o := { dst := some 9, op := Op.call { callee := Callee.value (Operand.func 44), args := #[Operand.tmp 6, Operand.tmp 8], argTypes := #[134, 134] }, type := 3, pos := "value.go:23", after := #[{ on := 1, ground := Ground.data }, { on := 3, ground := Ground.data }], guard := none }) rfl (fun K hK => ?_) AllReadyH.nil
  go_simp
  refine HC.out.mono ?_
  rintro e w' ⟨rfl, rfl⟩
  refine hK.out _ _ H.out.2 (fun hH => ?_)
  clear hK K
  (try simp only [Act.put, List.setIfInBounds_toArray, List.set_cons_zero, List.set_cons_succ])
  refine wpAnyH_ready (rs := [9]) (by kernel_rfl) (by simp) ?_
  refine AllReadyH.cons (o := { dst := some 14, op := Op.call { callee := Callee.value (Operand.func 45), args := #[Operand.tmp 11, Operand.tmp 13], argTypes := #[9, 9] }, type := 3, pos := "value.go:23", after := #[{ on := 6, ground := Ground.data }, { on := 8, ground := Ground.data }, { on := 4, ground := Ground.chain }], guard := none }) rfl (fun K hK => ?_) AllReadyH.nil
  go_simp
  refine HS.out.mono ?_
  rintro e w' ⟨rfl, rfl⟩
  refine hK.out _ _ H.out.2 (fun hH => ?_)
  clear hK K
  (try simp only [Act.put, List.setIfInBounds_toArray, List.set_cons_zero, List.set_cons_succ])
  refine wpAnyH_ready (rs := [10]) (by kernel_rfl) (by simp) ?_
  refine AllReadyH.cons (o := { dst := some 15, op := Op.buildSlice 156 2 #[(0, Operand.tmp 9), (1, Operand.tmp 14)], type := 156, pos := "value.go:23", after := #[{ on := 4, ground := Ground.data }, { on := 9, ground := Ground.data }], guard := none }) rfl (fun K hK => ?_) AllReadyH.nil
  go_simp
  refine hK.out _ _ ⟨allocB H.out.2.1 _, allocB H.out.2.2 _⟩ (fun hH => ?_)
  clear hK K
  (try simp only [Act.put, List.setIfInBounds_toArray, List.set_cons_zero, List.set_cons_succ])
  refine wpAnyH_ready (rs := [11]) (by kernel_rfl) (by simp) ?_
  refine AllReadyH.cons (o := { dst := some 16, op := Op.call { callee := Callee.value (Operand.func 43), args := #[Operand.tmp 15], argTypes := #[156] }, type := 3, pos := "value.go:23", after := #[{ on := 10, ground := Ground.data }, { on := 9, ground := Ground.chain }], guard := none }) rfl (fun K hK => ?_) AllReadyH.nil
  go_simp
  refine (HO.out _ _).mono ?_
  rintro e w' ⟨rfl, rfl⟩
  refine hK.out _ _ ⟨allocB H.out.2.1 _, allocB H.out.2.2 _⟩ (fun hH => ?_)
  clear hK K
  (try simp only [Act.put, List.setIfInBounds_toArray, List.set_cons_zero, List.set_cons_succ])
  refine wpAnyH_take (i := 12) (oi := { dst := some 4, op := Op.assign (Operand.tmp 16), type := 3, pos := "value.go:23", after := #[{ on := 11, ground := Ground.data }, { on := 11, ground := Ground.chain }, { on := 0, ground := Ground.phase }, { on := 1, ground := Ground.phase }, { on := 2, ground := Ground.phase }, { on := 3, ground := Ground.phase }, { on := 4, ground := Ground.phase }, { on := 5, ground := Ground.phase }, { on := 6, ground := Ground.phase }, { on := 7, ground := Ground.phase }, { on := 8, ground := Ground.phase }, { on := 9, ground := Ground.phase }, { on := 10, ground := Ground.phase }, { on := 11, ground := Ground.phase }], guard := none }) (v := .int .i64 (orI (Lib.compareBytes a.policy b.policy) (Lib.compareBytes a.name b.name))) rfl (by kernel_rfl) (by kernel_rfl) (by kernel_rfl) (fun _ _ _ h => h) (Or.inl ⟨by rfl, ?_⟩) hH ?_
  · intro w' hSw
    obtain ⟨s0, s1⟩ := hSw
    go_simp
    try with_reducible rfl
  (try simp only [Act.put, List.setIfInBounds_toArray, List.set_cons_zero, List.set_cons_succ])
  refine wpAnyH_done (by kernel_rfl) ?_ _
  go_wp2_with fail
  go_ret
  exact ⟨rfl, (H.out.1.drew).alloc _⟩
end Go.Proofs.Ytckcamlicgdklaa
