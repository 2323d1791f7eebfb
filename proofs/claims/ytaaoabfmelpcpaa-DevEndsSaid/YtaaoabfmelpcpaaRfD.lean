/- The document's device: how its blocks stand behind a write, behind one that is kept, behind all. -/
import Derived.Test.YtaaoabfmelpcpaaRfC
namespace Go.Proofs.Ytaaoabfmelpcpaa
open Go.RowKit Go.Mo

theorem info80 : (Try.prog.info? 80).map (fun i => (i.zero, i.size, i.bytes)) = some (some (.agg #[.int .i64 0, .slice none 0 0]), 2, 32) := by kernel_rfl

section
variable {w w' w1 : World} {R : Nat} {S : Nat → Prop} {d : Dv} {n G : Nat} {W : Value} {vals : List Value} {we : List (Int × Value)}

/-- One more waits. -/
theorem RefAt.put (h : RefAt w R S d n G W vals we) {k : Int} (h0 : 0 ≤ k) (h1 : k < n) {bs : Bs} (hl : bs.length = 256) {W' v : Value} (hm : Mod (fun j => W.ownBlock = some j) w w1)
    (ho : w1.ownsRow 0 80 2 W' (we.length + 1) (flat we ++ [.int .i64 k, v])) (hat : ∀ j, W'.ownBlock = some j → W.ownBlock = some j ∨ w.heap.size ≤ j)
    (hv : Byt w1 (fun j => w.heap.size ≤ j) v bs) (hlen : d.waiting.length < 1000000) :
    ∃ S', RefAt (w1.setCell ⟨R, 2, none⟩ W') R S' { d with waiting := d.waiting ++ [(k, bs)] } n G W' vals (we ++ [(k, v)]) ∧ Mod S w (w1.setCell ⟨R, 2, none⟩ W') ∧ ∀ j, S' j → S j ∨ w.heap.size ≤ j := by
  have hmR : Mod (fun j => j = R) w1 (w1.setCell ⟨R, 2, none⟩ W') := (Mod.refl (fun j => j = R) w1).setCell (fun _ => rfl) _
  have hmA : Mod (fun j => j = R ∨ j = G ∨ W.ownBlock = some j) w (w1.setCell ⟨R, 2, none⟩ W') := (hm.weaken (fun j q _ => .inr (.inr q))).trans hmR (fun j q _ => .inl q)
  have hbs := h.bs hmA
  have hR1 : w1.heap[R]? = some (.cells (rcells G W n d) 69 (0, 0)) := (hm.block R (h.lt _ h.sR) h.neWR).trans h.hR
  have hW'R : W'.ownBlock ≠ some R := own_ne ho hR1 (by decide)
  have hsz := hmA.size
  refine ⟨fun j => S j ∨ (w.heap.size ≤ j ∧ j < w1.heap.size), ⟨?_, ?_, h.len, ?_, ?_, ?_, .inl h.sR, .inl h.sG, fun j hj => ?_, ?_, ?_, ?_⟩, hmA.weaken (fun j q _ => ?_), fun j q => q.imp id (fun q => q.1)⟩
  · rw [setB hR1]; rfl
  · exact (hmR.block G (Nat.lt_of_lt_of_le (h.lt _ h.sG) hm.size) h.neRG).trans ((hm.block G (h.lt _ h.sG) h.neWG).trans h.hG)
  · exact fun i x hx => (h.kept i x hx).bsame hbs hsz (fun j hj _ => .inl hj)
  · rw [flat_snoc, List.length_append]
    exact own_same ho (fun j hj => hmR.block j (ho.lt j hj).2 (fun e => hW'R (e ▸ hj)))
  · refine KVs.snoc ?_ (h.wait.bsame hbs hsz (fun j hj _ => .inl hj))
    obtain ⟨g, cap, e, hg, hgl⟩ := hv.some
    refine hv.same (hmR.same (fun j hj q => ?_)) hmR.size (fun j hj hl => .inr ⟨hj, hl⟩)
    have := h.lt _ h.sR; omega
  · rcases hat j hj with q | q
    · exact .inl (h.sW j q)
    · exact .inr ⟨q, (ho.lt j hj).2⟩
  · rintro j (q | q)
    · have := h.lt j q; omega
    · have := hmR.size; omega
  · refine ⟨h.ri.sec, h.ri.kn, h.ri.inK, fun x hx => ?_, h.ri.l1, fun x hx => ?_, h.ri.arm, h.ri.pos⟩
    · rcases List.mem_append.1 hx with hx | hx
      · exact h.ri.inW x hx
      · simp at hx; subst hx; exact ⟨h0, h1⟩
    · rcases List.mem_append.1 hx with hx | hx
      · exact h.ri.l2 x hx
      · simp at hx; subst hx; exact hl
  · simp; omega
  · rcases q with rfl | rfl | q
    · exact h.sR
    · exact h.sG
    · exact h.sW j q

/-- One that waits is kept. -/
theorem RefAt.keep1 (h : RefAt w R S d n G W vals we) {i : Nat} {x : Int × Bs} (hx : d.waiting[i]? = some x) {v : Value} (hb : Byt w S v x.2) {k : Nat} (hk : x.1 = k) :
    RefAt (w.setCell ⟨G, k, none⟩ v) R S { d with kept := up d.kept x.1 x.2 } n G W (vals.set k v) we ∧ Mod S w (w.setCell ⟨G, k, none⟩ v) := by
  have hmem := List.mem_of_getElem? hx
  have hin := h.ri.inW x hmem
  have hmG : Mod (fun j => j = G) w (w.setCell ⟨G, k, none⟩ v) := (Mod.refl (fun j => j = G) w).setCell (fun _ => rfl) _
  have hbs := h.bs (hmG.weaken fun j e _ => .inr (.inl e))
  have hsz := hmG.size
  refine ⟨⟨?_, ?_, by simpa using h.len, ?_, ?_, ?_, h.sR, h.sG, h.sW, fun j hj => Nat.lt_of_lt_of_le (h.lt j hj) hsz, ?_, h.bound⟩, hmG.weaken (fun j e _ => e ▸ h.sG)⟩
  · exact (hmG.block R (h.lt _ h.sR) (fun e => h.neRG e.symm)).trans h.hR
  · rw [setB h.hG]; simp
  · intro j u hj
    have hjl : j < vals.length := by have := (List.getElem?_eq_some_iff.1 hj).1; simpa using this
    rw [show (({ d with kept := up d.kept x.1 x.2 } : Dv).kept) = up d.kept x.1 x.2 from rfl, lk_up]
    by_cases e : k = j
    · subst e
      rw [List.getElem?_set_self hjl] at hj
      cases hj
      rw [if_pos hk]
      exact hb.bsame hbs hsz (fun j hj _ => hj)
    · rw [List.getElem?_set_ne e] at hj
      rw [if_neg (by omega)]
      exact (h.kept j u hj).bsame hbs hsz (fun j hj _ => hj)
  · exact own_same h.row (fun j hj => hmG.block j (h.lt j (h.sW j hj)) (fun e => h.neWG (e ▸ hj)))
  · exact h.wait.bsame hbs hsz (fun j hj _ => hj)
  · refine ⟨h.ri.sec, nodup_keys_up _ _ _ h.ri.kn, fun j hj => ?_, h.ri.inW, up_mem (P := fun b : Bs => b.length = 256) (h.ri.l2 x hmem) h.ri.l1, h.ri.l2, h.ri.arm, h.ri.pos⟩
    rcases (mem_keys_up j x.1 x.2 d.kept).1 hj with e | e
    · rw [e]; exact hin
    · exact h.ri.inK j e

/-- Nothing waits any more. -/
theorem RefAt.none_ (h : RefAt w R S d n G W vals we) : RefAt (w.setCell ⟨R, 2, none⟩ (.slice none 0 0)) R S { d with waiting := [] } n G (.slice none 0 0) vals [] ∧ Mod S w (w.setCell ⟨R, 2, none⟩ (.slice none 0 0)) := by
  have hmR : Mod (fun j => j = R) w (w.setCell ⟨R, 2, none⟩ (.slice none 0 0)) := (Mod.refl (fun j => j = R) w).setCell (fun _ => rfl) _
  have hbs := h.bs (hmR.weaken fun j e _ => .inl e)
  have hsz := hmR.size
  refine ⟨⟨?_, ?_, h.len, ?_, World.ownsRow_nil _ _ _ _, trivial, h.sR, h.sG, fun j hj => by simp [Value.ownBlock] at hj, fun j hj => Nat.lt_of_lt_of_le (h.lt j hj) hsz, ?_, by simp⟩, hmR.weaken (fun j e _ => e ▸ h.sR)⟩
  · rw [setB h.hR]; rfl
  · exact (hmR.block G (h.lt _ h.sG) h.neRG).trans h.hG
  · exact fun i v hv => (h.kept i v hv).bsame hbs hsz (fun j hj _ => hj)
  · exact ⟨h.ri.sec, h.ri.kn, h.ri.inK, fun x hx => by simp at hx, h.ri.l1, fun x hx => by simp at hx, h.ri.arm, h.ri.pos⟩

theorem keepL_take (p : Nat → Bool) (l acc : List (Int × Bs)) (j : Nat) (x : Int × Bs) (hx : l[j]? = some x) : keepL p 0 (l.take (j + 1)) acc = if p j then up (keepL p 0 (l.take j) acc) x.1 x.2 else keepL p 0 (l.take j) acc := by
  have hj := (List.getElem?_eq_some_iff.1 hx).1
  rw [List.take_add_one, hx, Option.toList_some, keepL_snoc, Nat.zero_add, List.length_take, Nat.min_eq_left (by omega)]
end
end Go.Proofs.Ytaaoabfmelpcpaa
