/- AssetsOf, TermOf: counts of a slice's elements. -/
import Derived.Test.YtckcamlicgdklaaRdA
import Derived.Deep.Cut
import Derived.Deep.CutBlock
import Derived.Deep.CutRange
namespace Go.Proofs.Ytckcamlicgdklaa
open Go.RowKit Go.Mo

theorem Try.b97 : 0 < Try.prog.bytesOf 97 := of_decide_eq_true (by kernel_rfl)
theorem Try.c97 : Try.prog.cellsOf 97 = 34 := by kernel_rfl
theorem cc41 : Try.prog.cellsOf 41 = 1 := by kernel_rfl
theorem cc43 : Try.prog.cellsOf 43 = 2 := by kernel_rfl
theorem cc45 : Try.prog.cellsOf 45 = 1 := by kernel_rfl
theorem cc47 : Try.prog.cellsOf 47 = 1 := by kernel_rfl
theorem cc49 : Try.prog.cellsOf 49 = 69 := by kernel_rfl
theorem cc51 : Try.prog.cellsOf 51 = 102 := by kernel_rfl
theorem cc112 : Try.prog.cellsOf 112 = 5 := by kernel_rfl
theorem cc28 : Try.prog.cellsOf 28 = 1 := by kernel_rfl
theorem cc29 : Try.prog.cellsOf 29 = 1 := by kernel_rfl
theorem cc33 : Try.prog.cellsOf 33 = 1 := by kernel_rfl
theorem cc34 : Try.prog.cellsOf 34 = 1 := by kernel_rfl
theorem cc36 : Try.prog.cellsOf 36 = 182 := by kernel_rfl
theorem cc70 : Try.prog.cellsOf 70 = 1 := by kernel_rfl
theorem cc88 : Try.prog.cellsOf 88 = 35 := by kernel_rfl
theorem cc103 : Try.prog.cellsOf 103 = 68 := by kernel_rfl
theorem cc106 : Try.prog.cellsOf 106 = 5 := by kernel_rfl
theorem cc108 : Try.prog.cellsOf 108 = 106 := by kernel_rfl
theorem cc119 : Try.prog.cellsOf 119 = 1 := by kernel_rfl
theorem cc38 : Try.prog.cellsOf 38 = 33 := by kernel_rfl
theorem cc121 : Try.prog.cellsOf 121 = 40 := by kernel_rfl
theorem cc122 : Try.prog.cellsOf 122 = 1 := by kernel_rfl
theorem cc123 : Try.prog.cellsOf 123 = 1 := by kernel_rfl
theorem cc124 : Try.prog.cellsOf 124 = 1 := by kernel_rfl
theorem cc125 : Try.prog.cellsOf 125 = 1 := by kernel_rfl
theorem cc127 : Try.prog.cellsOf 127 = 45 := by kernel_rfl
theorem cc139 : Try.prog.cellsOf 139 = 1 := by kernel_rfl
theorem cc141 : Try.prog.cellsOf 141 = 1 := by kernel_rfl
theorem cc144 : Try.prog.cellsOf 144 = 5 := by kernel_rfl
theorem cc159 : Try.prog.cellsOf 159 = 1 := by kernel_rfl
theorem cc161 : Try.prog.cellsOf 161 = 2 := by kernel_rfl
theorem cc170 : Try.prog.cellsOf 170 = 4 := by kernel_rfl
theorem cc27 : Try.prog.cellsOf 27 = 32 := by kernel_rfl
theorem bb112 : 0 < Try.prog.bytesOf 112 := of_decide_eq_true (by kernel_rfl)
theorem bb51 : 0 < Try.prog.bytesOf 51 := of_decide_eq_true (by kernel_rfl)
theorem bb49 : 0 < Try.prog.bytesOf 49 := of_decide_eq_true (by kernel_rfl)
theorem bb161 : 0 < Try.prog.bytesOf 161 := of_decide_eq_true (by kernel_rfl)
theorem bb47 : 0 < Try.prog.bytesOf 47 := of_decide_eq_true (by kernel_rfl)
theorem bb127 : 0 < Try.prog.bytesOf 127 := of_decide_eq_true (by kernel_rfl)
theorem bb170 : 0 < Try.prog.bytesOf 170 := of_decide_eq_true (by kernel_rfl)
theorem bb141 : 0 < Try.prog.bytesOf 141 := of_decide_eq_true (by kernel_rfl)
theorem bb144 : 0 < Try.prog.bytesOf 144 := of_decide_eq_true (by kernel_rfl)
theorem bb108 : 0 < Try.prog.bytesOf 108 := of_decide_eq_true (by kernel_rfl)
theorem bb88 : 0 < Try.prog.bytesOf 88 := of_decide_eq_true (by kernel_rfl)
theorem bb38 : 0 < Try.prog.bytesOf 38 := of_decide_eq_true (by kernel_rfl)
theorem bb27 : 0 < Try.prog.bytesOf 27 := of_decide_eq_true (by kernel_rfl)
theorem ss43 : (Try.prog.info? 43).map (·.size) = some 2 := by kernel_rfl
theorem ss47 : (Try.prog.info? 47).map (·.size) = some 1 := by kernel_rfl
theorem ss49 : (Try.prog.info? 49).map (·.size) = some 69 := by kernel_rfl
theorem ss103 : (Try.prog.info? 103).map (·.size) = some 68 := by kernel_rfl
theorem ss106 : (Try.prog.info? 106).map (·.size) = some 5 := by kernel_rfl
theorem ss108 : (Try.prog.info? 108).map (·.size) = some 106 := by kernel_rfl
theorem ss121 : (Try.prog.info? 121).map (·.size) = some 40 := by kernel_rfl
theorem ss127 : (Try.prog.info? 127).map (·.size) = some 45 := by kernel_rfl
theorem ss161 : (Try.prog.info? 161).map (·.size) = some 2 := by kernel_rfl
theorem ss36 : (Try.prog.info? 36).map (·.size) = some 182 := by kernel_rfl
theorem wrap_i64 {n : Int} (h0 : 0 ≤ n) (h1 : n ≤ 9000000000000000000) : IntKind.i64.wrap n = n := by
  simp only [IntKind.wrap, IntKind.bits, IntKind.signed]
  simp
  omega
theorem str97 {w : World} {cs : List Value} (h : Rd w 97 cs) : ∃ s : ByteArray, cs[32]? = some (.string s) ∧ s.size ≤ 140737488351232 := by
  obtain ⟨v, hv, hr⟩ := h.cellAt Try.underlying97 1 rfl 9 32 rfl rfl Try.c9 Try.c97 (by omega)
  obtain ⟨s, rfl, hs⟩ := hr.string Try.underlying9
  exact ⟨s, hv, hs⟩

theorem assetsOf_calls (w0 : World) (v : Value) (h : Rd w0 41 [v]) (w : World) (hm : Mod (fun _ => False) w0 w) : Calls Try.prog 33 #[v, .int .i64 6000] w fun e w' => Cnt w 10000000000000 (fun n => n ≤ 6000 → ∀ a len c, v = .slice a len c → len ≤ n) e w' := by
  obtain ⟨a, len, cap, rfl, hb, _, hel⟩ := h.slice Try.underlying41 Try.c97 (by omega)
  have hlen := len_of_bytes hb Try.b97
  have HE := Lib.hid hel
  have HM := Lib.hid hm
  clear hel hm hb h
  go_enter Try.func33, Try.ntmps33
  go_wp2_with fail
  go_loopw [5, 6] (fun n i wr => ∃ (k : Nat) (z : Int), k ≤ len ∧ i = .int .i64 k ∧ n = .int .i64 z ∧ k ≤ z ∧ z ≤ 10000000000000 ∧ Mod (fun _ => False) w wr) (fun _ i _ => len - (intOf i).toNat)
  case atStart => exact ⟨0, 0, by omega, rfl, rfl, by omega, by omega, Mod.refl _ w⟩
  case round =>
    obtain ⟨k, z, hk, rfl, rfl, hz0, hz1, hmr⟩ := hrel
    by_cases hlt : k < len
    · by_cases hz : z ≤ 6000
      · obtain ⟨L, off, cs, rfl, hL, hcl, hrd, hcs⟩ := HE.out k hlt
        obtain ⟨s, hs, hsz⟩ := str97 hrd
        have hc : wr.cell? ⟨L, off + k * 34 + 32, none⟩ = some (.string s) := (hmr.cell (p := ⟨L, _, none⟩) (Nat.lt_of_lt_of_le hL HM.out.size) (fun q => q)).trans ((HM.out.cell (p := ⟨L, _, none⟩) hL (fun q => q)).trans (hcs 32 _ hs))
        have hMR := Lib.hid hmr
        clear hmr hcs hrd hs
        go_wp2_with fail
        go_roundw
        case rel => exact ⟨k + 1, z + 1 + s.size / 16, by omega, rfl, rfl, by omega, by omega, hMR.out⟩
        case measure => simp [intOf]; omega
      · have hMR := Lib.hid hmr
        clear hmr
        go_wp2_with fail
        go_ret
        exact ⟨z, rfl, by omega, by omega, fun q => by omega, hMR.out⟩
    · have e : k = len := by omega
      subst e
      have hMR := Lib.hid hmr
      clear hmr
      go_wp2_with fail
      go_ret
      exact ⟨z, rfl, by omega, by omega, fun _ a' l' c' q => by simp at q; omega, hMR.out⟩
theorem str112 {w : World} {cs : List Value} (h : Rd w 112 cs) : ∃ s : ByteArray, cs[3]? = some (.string s) ∧ s.size ≤ 140737488351232 := by
  obtain ⟨v, hv, hr⟩ := h.cellAt Try.underlying112 3 rfl 9 3 rfl rfl Try.c9 cc112 (by omega)
  obtain ⟨s, rfl, hs⟩ := hr.string Try.underlying9
  exact ⟨s, hv, hs⟩
theorem termOf_calls (w0 : World) (cs : List Value) (h : Rd w0 47 cs) (w : World) (hm : Mod (fun _ => False) w0 w) : Calls Try.prog 19 #[.agg cs.toArray, .int .i64 6000] w fun e w' => Cnt w 10000000000000 (fun _ => True) e w' := by
  obtain ⟨v, hv, hr⟩ := h.cellAt Try.underlying47 0 rfl 45 0 rfl rfl cc45 cc47 (by omega)
  obtain ⟨a, len, cap, rfl, hb, _, hel⟩ := hr.slice Try.underlying45 cc112 (by omega)
  have hlen := len_of_bytes hb bb112
  obtain ⟨w1, hw1⟩ : ∃ w1, w.alloc (.cells cs.toArray 47) = w1 := ⟨_, rfl⟩
  have hbx : w1.heap[w.heap.size]? = some (.cells cs.toArray 47 (0, 0)) := by rw [← hw1]; exact newB w _
  have hm1 : Mod (fun _ => False) w w1 := by rw [← hw1]; exact (Mod.refl _ w).alloc _
  have HB := Lib.hid (fun (W : World) (hW : Mod (fun _ => False) w1 W) => (show W.cell? ⟨w.heap.size, 0, none⟩ = some (.slice a len cap) from (cellB ((hW.block _ (ltB hbx) (fun q => q)).trans hbx) 0).trans (by rw [List.getElem?_toArray]; exact hv)))
  have HE := Lib.hid hel
  have HM := Lib.hid (hm.tr hm1)
  have HM1 := Lib.hid hm1
  clear hel hm hb h hbx hm1 hr hv
  go_enter Try.func19, Try.ntmps19
  go_wp2_with fail
  go_loopw [5, 6] (fun n i wr => ∃ (k : Nat) (z : Int), k ≤ len ∧ i = .int .i64 k ∧ n = .int .i64 z ∧ 0 ≤ z ∧ z ≤ 10000000000000 ∧ Mod (fun _ => False) w1 wr) (fun _ i _ => len - (intOf i).toNat)
  case atStart => exact ⟨0, 0, by omega, rfl, rfl, by omega, by omega, Mod.refl _ w1⟩
  case round =>
    obtain ⟨k, z, hk, rfl, rfl, hz0, hz1, hmr⟩ := hrel
    have s0 := HB.out _ hmr
    by_cases hlt : k < len
    · by_cases hz : z ≤ 6000
      · obtain ⟨L, off, ds, rfl, hL, hcl, hrd, hcs⟩ := HE.out k hlt
        obtain ⟨s, hs, hsz⟩ := str112 hrd
        have hc : wr.cell? ⟨L, off + k * 5 + 3, none⟩ = some (.string s) := (hmr.cell (p := ⟨L, _, none⟩) (Nat.lt_of_lt_of_le hL HM.out.size) (fun q => q)).trans ((HM.out.cell (p := ⟨L, _, none⟩) hL (fun q => q)).trans (hcs 3 _ hs))
        have hMR := Lib.hid hmr
        clear hmr hcs hrd hs
        go_wp2_with fail
        go_roundw
        case rel => exact ⟨k + 1, z + 1 + s.size / 16, by omega, rfl, rfl, by omega, by omega, hMR.out⟩
        case measure => simp [intOf]; omega
      · have hMR := Lib.hid hmr
        clear hmr
        go_wp2_with fail
        go_ret
        exact ⟨z, rfl, by omega, by omega, trivial, HM1.out.tr hMR.out⟩
    · have e : k = len := by omega
      subst e
      have hMR := Lib.hid hmr
      clear hmr
      go_wp2_with fail
      go_ret
      exact ⟨z, rfl, by omega, by omega, trivial, HM1.out.tr hMR.out⟩
end Go.Proofs.Ytckcamlicgdklaa
