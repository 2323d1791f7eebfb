/- DevTells: the two devices side by side. -/
import Derived.Test.YtaaoabfmelpcpaaRfI
import Derived.Test.YtaaoabfmelpcpaaQuB
import Derived.Laws.StructEq
namespace Go.Proofs.Ytaaoabfmelpcpaa
open Go.RowKit Go.Mo

/-- The device p, which is dA, and the document's, at R, which is dB, of blocks that lie apart and were made behind w. -/
structure TS (w W : World) (p : Value) (R n : Nat) (dA dB : Dv) (S S2 : Nat → Prop) : Prop where
  hd : Hd W p S (some dA)
  ref : Ref W R S2 dB n
  dis : ∀ j, S j → ¬ S2 j
  mod : Mod (fun _ => False) w W
  own : ∀ j, S j → w.heap.size ≤ j
  own2 : ∀ j, S2 j → w.heap.size ≤ j

section
variable {w W W' : World} {p : Value} {R n : Nat} {dA dB d : Dv} {S S2 : Nat → Prop}

theorem TS.step (h : TS w W p R n dA dB S S2) (hm : Mod (fun _ => False) W W') : TS w W' p R n dA dB S S2 :=
  ⟨h.hd.mod hm, h.ref.step hm (fun _ _ q => q), h.dis, h.mod.tr hm, h.own, h.own2⟩

theorem TS.opA (h : TS w W p R n dA dB S S2) {d' : Dv} (ho : OpH W W' p S (some d')) : ∃ S', TS w W' p R n d' dB S' S2 := by
  obtain ⟨S', h1, h2, h3⟩ := ho
  refine ⟨S', h1, h.ref.step h2 (fun j hj q => h.dis j q hj), fun j hj q => ?_, h.mod.trans h2 (fun j q l => by have := h.own j q; omega), fun j hj => ?_, h.own2⟩
  · rcases h3 j hj with r | r
    · exact h.dis j r q
    · have := h.ref.lt j q; omega
  · rcases h3 j hj with r | r
    · exact h.own j r
    · have := h.mod.size; omega

theorem TS.opB (h : TS w W p R n dA dB S S2) {d' : Dv} (ho : RefOp W W' R S2 d' n) : ∃ S2', TS w W' p R n dA d' S S2' := by
  obtain ⟨S', h1, h2, h3⟩ := ho
  refine ⟨S', h.hd.same h2 (fun j hj q => h.dis j hj q), h1, fun j hj q => ?_, h.mod.trans h2 (fun j q l => by have := h.own2 j q; omega), h.own, fun j hj => ?_⟩
  · rcases h3 j q with r | r
    · exact h.dis j hj r
    · have := h.hd.lt j hj; omega
  · rcases h3 j hj with r | r
    · exact h.own2 j r
    · have := h.mod.size; omega

theorem TS.four (h : TS w W p R n dA dB S S2) {L o : Nat} {v0 v1 v2 v3 : Value} (hL : L < w.heap.size) (k0 : w.cell? ⟨L, o, none⟩ = some v0) (k1 : w.cell? ⟨L, o + 1, none⟩ = some v1) (k2 : w.cell? ⟨L, o + 2, none⟩ = some v2) (k3 : w.cell? ⟨L, o + 3, none⟩ = some v3) :
    W.cell? ⟨L, o, none⟩ = some v0 ∧ W.cell? ⟨L, o + 1, none⟩ = some v1 ∧ W.cell? ⟨L, o + 2, none⟩ = some v2 ∧ W.cell? ⟨L, o + 3, none⟩ = some v3 :=
  ⟨(h.mod.cell (p := ⟨L, o, none⟩) hL (fun q => q)).trans k0, (h.mod.cell (p := ⟨L, o + 1, none⟩) hL (fun q => q)).trans k1, (h.mod.cell (p := ⟨L, o + 2, none⟩) hL (fun q => q)).trans k2, (h.mod.cell (p := ⟨L, o + 3, none⟩) hL (fun q => q)).trans k3⟩

/-- What both tell of a deed. -/
@[reducible] def toldV (d : Dv) (x : Deed) : Value := .agg #[.string ⟨(eb d x).toArray⟩, .int .i64 (ee d x), .bool (ei d x)]
@[reducible] def statW (d : Dv) : Value := .agg #[.int .i64 d.sectors, .int .i64 d.quota, .int .i64 (used d), .int .i64 d.waiting.length, .int .i64 d.armed, .int .i64 d.turns, .bool d.down]

theorem TS.does (h : TS w W p R n d dB S S2) {k : Nat} (hi : InvO (some d) k) (hk : k < 1000000) (x : Deed) (hxn : x.n ≤ 9223372036854775807) (a : Option Addr) (c : Nat) (hbl : Bits w (.slice a x.bits.length c) x.bits) (hl : x.bits.length ≤ 140737488351232) :
    Calls Try.prog 11 #[p, .agg #[.int .i64 x.what, .int .i64 x.at_, .int .i64 x.n, .slice a x.bits.length c]] W fun e w' => e = .returned (toldV d x) ∧ ∃ S', TS w w' p R n (dd d x) dB S' S2 := by
  refine (does_calls h.hd hi hk x hxn a c (hbl.mod h.mod) hl).mono ?_
  rintro e w' ⟨h1, h2⟩
  rw [doesT_some] at h1
  rw [doesD_some] at h2
  exact ⟨h1, h.opA h2⟩

theorem TS.wants (h : TS w W p R n dA d S S2) (hn : n ≤ 16384) (hlen0 : d.waiting.length < 1000000) (x : Deed) (hxn : x.n ≤ 9223372036854775807) (a : Option Addr) (c : Nat) (hbl : Bits w (.slice a x.bits.length c) x.bits) (hl : x.bits.length ≤ 140737488351232) :
    Calls Try.prog 12 #[.pointer (some ⟨R, 0, none⟩), .agg #[.int .i64 x.what, .int .i64 x.at_, .int .i64 x.n, .slice a x.bits.length c]] W fun e w' => e = .returned (toldV d x) ∧ ∃ S2', TS w w' p R n dA (dd d x) S S2' := by
  refine (wants_calls h.ref hn hlen0 x hxn a c (hbl.mod h.mod) hl (fun hne j hj q => by
    obtain ⟨b, o, c', e, hb, _⟩ := hbl.plain hne
    have := h.own2 j q
    rw [e] at hj
    simp [Value.ownBlock] at hj
    omega)).mono ?_
  rintro e w' ⟨h1, h2⟩
  rw [doesT_some] at h1
  exact ⟨h1, h.opB h2⟩

theorem TS.statA (h : TS w W p R n d dB S S2) {k : Nat} (hi : InvO (some d) k) (hk : k ≤ 1000000) : Calls Try.prog 13 #[p] W fun e w' => e = .returned (statW d) ∧ TS w w' p R n d dB S S2 :=
  (stat_H h.hd hi hk).mono fun _ _ q => ⟨q.1, h.step q.2⟩
theorem TS.statB (h : TS w W p R n dA d S S2) (hn : n ≤ 16384) : Calls Try.prog 14 #[.pointer (some ⟨R, 0, none⟩)] W fun e w' => e = .returned (statW d) ∧ TS w w' p R n dA d S S2 :=
  (stat_R h.ref hn).mono fun _ _ q => ⟨q.1, h.step q.2⟩

end
end Go.Proofs.Ytaaoabfmelpcpaa
