/- The document's device: Flush, Wake. -/
import Derived.Test.YtaaoabfmelpcpaaRfE
namespace Go.Proofs.Ytaaoabfmelpcpaa
open Go.RowKit Go.Mo

section
variable {w w' w1 : World} {R : Nat} {S : Nat → Prop} {d : Dv} {n G : Nat} {W : Value} {vals : List Value} {we : List (Int × Value)}

set_option maxRecDepth 100000 in
set_option maxHeartbeats 2000000 in
theorem rflush_calls (h : RefAt w R S d n G W vals we) : Calls Try.prog 26 #[.pointer (some ⟨R, 0, none⟩)] w fun e w' => e = .returned (.int .i64 (flushE d)) ∧ RefOp w w' R S (flushD d) n := by
  have c5 := h.c5
  cases hd : d.down with
  | true =>
    rw [hd] at c5
    have hE : flushE d = 8 := by simp [flushE, hd]
    have hD : flushD d = d := by simp [flushD, hd]
    have HK := Lib.hid (show RefOp w w R S d n from RefOp.of ⟨h, Mod.refl _ _⟩)
    rw [hE, hD]
    clear h
    go_enter Try.func26, Try.ntmps26
    go_wp2_with fail
    go_ret
    exact ⟨rfl, HK.out⟩
  | false =>
    rw [hd] at c5
    have HTU := Lib.hid (rturn_calls h hd)
    by_cases ha : d.armed = 1
    · have hE : flushE d = 8 := by simp [flushE, hd, ha]
      have hD : flushD d = turnD d := by simp [flushD, hd, ha]
      rw [hE, hD]
      rw [show decide (d.armed = 1) = true by simp [ha]] at HTU
      clear h
      go_enter Try.func26, Try.ntmps26
      go_wp2_with fail
      refine HTU.out.mono ?_
      rintro e w2 ⟨rfl, hr2, hm2⟩
      have HR := Lib.hid (RefOp.of ⟨hr2, hm2⟩)
      clear hr2 hm2
      go_wp2_with fail
      go_ret
      exact ⟨rfl, HR.out⟩
    · have hE : flushE d = 0 := by simp [flushE, hd, ha]
      have hD : flushD d = { turnD d with kept := keepL (fun _ => true) 0 ((turnD d).waiting.take (turnD d).waiting.length) (turnD d).kept, waiting := [] } := by
        simp [flushD, hd, ha, keepTo, turnD_wait]
      rw [hE, hD]
      rw [show decide (d.armed = 1) = false by simp [ha]] at HTU
      clear h hE hD
      go_enter Try.func26, Try.ntmps26
      go_wp2_with fail
      refine HTU.out.mono ?_
      rintro e w2 ⟨rfl, hr2, hm2⟩
      obtain ⟨d1, hd1⟩ : ∃ d1, turnD d = d1 := ⟨_, rfl⟩
      rw [hd1] at hr2
      have HD := Lib.hid hd1
      clear hd1
      have HR := Lib.hid (And.intro hr2 hm2)
      have hb1 := hr2.bound
      obtain ⟨a, c, hW⟩ := hr2.wshape
      clear hr2 hm2
      go_wp2_with fail
      go_loopw [3] (fun i wx => ∃ (j : Nat) (vals' : List Value), j ≤ d1.waiting.length ∧ i = .int .i64 j ∧ RefAt wx R S { d1 with kept := keepL (fun _ => true) 0 (d1.waiting.take j) d1.kept } n G W vals' we ∧ Mod S w wx) (fun i _ => d1.waiting.length - (intOf i).toNat)
      case atStart => exact ⟨0, vals, by omega, rfl, HR.out.1, HR.out.2⟩
      case round =>
        obtain ⟨j, vals', hj, rfl, hr, hm⟩ := hrel
        have c1 := hr.c1
        have c2 := hr.c2
        rw [hW] at c2
        by_cases hlt : j < d1.waiting.length
        · obtain ⟨x, hx⟩ : ∃ x, d1.waiting[j]? = some x := ⟨_, List.getElem?_eq_getElem hlt⟩
          obtain ⟨g, cap, v, hWg, hSg, hwv, k0, k1, hvb⟩ := hr.rowat (x := x) hx
          rw [hW] at hWg
          cases hWg
          have hin := hr.ri.inW x (List.mem_of_getElem? hx)
          obtain ⟨kk, hkk⟩ : ∃ kk : Nat, x.1 = kk := ⟨x.1.toNat, by omega⟩
          rw [hkk] at k0 hin
          have hkn : kk < n := by omega
          obtain ⟨u, hu, cu, _⟩ := hr.at hkn
          have fu := hr.gz kk
          obtain ⟨hr', hm'⟩ := hr.keep1 hx hvb hkk
          obtain ⟨_, g2, cap2, rfl, _, _⟩ := hvb
          have hks := keepL_take (fun _ => true) d1.waiting d1.kept j x hx
          rw [if_pos rfl] at hks
          have hr' : RefAt (wr.setCell ⟨G, kk, none⟩ (.slice (some ⟨g2, 0, none⟩) x.2.length cap2)) R S { d1 with kept := keepL (fun _ => true) 0 (d1.waiting.take (j + 1)) d1.kept } n G W (vals'.set kk (.slice (some ⟨g2, 0, none⟩) x.2.length cap2)) we := by rw [hks]; exact hr'
          have H' := Lib.hid (And.intro hr' (hm.tr hm'))
          have HX := Lib.hid (And.intro hkk hwv)
          clear hr' hr hm' hm hks hkk hwv hx hu
          go_wp2_with fail
          go_region
          all_goals
            go_wp2_with fail
            go_roundw
            case rel => exact ⟨j + 1, _, by omega, by simp, H'.out.1.same (Mod.same ((Mod.refl (fun _ => False) _).drew) (fun _ _ q => q)) (Nat.le_refl _), H'.out.2.drew⟩
            case measure => simp [intOf]; omega
        · have e : j = d1.waiting.length := by omega
          subst e
          have f2 := hr.fz 2
          obtain ⟨hn, hmn⟩ := hr.none_
          have HN := Lib.hid (And.intro hn (hm.tr hmn))
          clear hn hmn hr hm
          go_wp2_with fail
          go_ret
          exact ⟨rfl, S, ⟨_, _, _, _, by rw [HD.out]; simpa only [List.take_length] using HN.out.1⟩, HN.out.2, fun _ hj => .inl hj⟩

theorem wakeP_nil (i : Nat) : wakeP [] i = false := by simp [wakeP]

/-- Bits that are some lie in a block, at an offset. -/
theorem Bits.plain {w : World} {v : Value} {bits : List Bool} (h : Bits w v bits) (hne : bits ≠ []) : ∃ b o c, v = .slice (some ⟨b, o, none⟩) bits.length c ∧ b < w.heap.size ∧ ∀ j x, bits[j]? = some x → w.cell? ⟨b, o + j, none⟩ = some (.bool x) := by
  obtain ⟨a, c, rfl, ⟨_, e⟩ | ⟨⟨b, o, s⟩, rfl, hc⟩⟩ := h
  · exact absurd e hne
  · obtain ⟨x, hx⟩ : ∃ x, bits[0]? = some x := ⟨_, List.getElem?_eq_getElem (List.length_pos_iff.2 hne)⟩
    have h0 := hc 0 x hx
    have hs : s = none := by
      have := World.cell?_spot h0.2
      simpa [Addr.add] using this
    subst hs
    refine ⟨b, o, c, rfl, ?_, fun j y hy => ?_⟩
    · exact h0.1
    · have := (hc j y hy).2
      rwa [add0] at this

set_option maxRecDepth 100000 in
set_option maxHeartbeats 2000000 in
theorem rwake_calls (h : RefAt w R S d n G W vals we) (vb : Value) (bits : List Bool) (hb : Bits w vb bits) (hbl : bits.length ≤ 140737488355328) (hbS : bits ≠ [] → ∀ j, vb.ownBlock = some j → ¬ S j) : Calls Try.prog 29 #[.pointer (some ⟨R, 0, none⟩), vb] w fun e w' => e = ret0 ∧ RefOp w w' R S (wakeD d bits) n := by
  have c5 := h.c5
  obtain ⟨va, vc, hvb, _⟩ := id hb
  cases hd : d.down with
  | false =>
    rw [hd] at c5
    have hD : wakeD d bits = d := by simp [wakeD, hd]
    have HK := Lib.hid (show RefOp w w R S d n from RefOp.of ⟨h, Mod.refl _ _⟩)
    rw [hD]
    clear h hb
    subst hvb
    go_enter Try.func29, Try.ntmps29
    go_wp2_with fail
    go_returns
    exact ⟨rfl, HK.out⟩
  | true =>
    rw [hd] at c5
    have hD : wakeD d bits = { d with kept := keepL (wakeP bits) 0 (d.waiting.take d.waiting.length) d.kept, waiting := [], down := false, armed := 0 } := by
      simp [wakeD, hd, keepTo]
    rw [hD]
    have HR := Lib.hid h
    have hb1 := h.bound
    obtain ⟨a, c, hW⟩ := h.wshape
    have HB := Lib.hid (And.intro hb hbS)
    subst hvb
    clear h hD hb hbS
    go_enter Try.func29, Try.ntmps29
    go_wp2_with fail
    go_loopw [4] (fun i wx => ∃ (j : Nat) (vals' : List Value), j ≤ d.waiting.length ∧ i = .int .i64 j ∧ RefAt wx R S { d with kept := keepL (wakeP bits) 0 (d.waiting.take j) d.kept } n G W vals' we ∧ Mod S w wx) (fun i _ => d.waiting.length - (intOf i).toNat)
    case atStart => exact ⟨0, vals, by omega, rfl, HR.out, Mod.refl _ _⟩
    case round =>
      obtain ⟨j, vals', hj, rfl, hr, hm⟩ := hrel
      have c1 := hr.c1
      have c2 := hr.c2
      rw [hW] at c2
      by_cases hlt : j < d.waiting.length
      · obtain ⟨x, hx⟩ : ∃ x, d.waiting[j]? = some x := ⟨_, List.getElem?_eq_getElem hlt⟩
        obtain ⟨g, cap, v, hWg, hSg, hwv, k0, k1, hvb⟩ := hr.rowat (x := x) hx
        rw [hW] at hWg
        cases hWg
        have hin := hr.ri.inW x (List.mem_of_getElem? hx)
        obtain ⟨kk, hkk⟩ : ∃ kk : Nat, x.1 = kk := ⟨x.1.toNat, by omega⟩
        rw [hkk] at k0 hin
        have hkn : kk < n := by omega
        obtain ⟨u, hu, cu, _⟩ := hr.at hkn
        have fu := hr.gz kk
        obtain ⟨hr', hm'⟩ := hr.keep1 hx hvb hkk
        obtain ⟨_, g2, cap2, rfl, _, _⟩ := hvb
        have hks := keepL_take (wakeP bits) d.waiting d.kept j x hx
        have HKS := Lib.hid hks
        have H0 := Lib.hid (And.intro hr hm)
        have H' := Lib.hid (And.intro hr' (hm.tr hm'))
        have HX := Lib.hid (And.intro hkk hwv)
        clear hr' hr hm' hm hks hkk hwv hx hu
        by_cases hne : bits = []
        · have hw0 : wakeP bits j = false := by rw [hne]; exact wakeP_nil j
          rw [hw0, if_neg (by simp)] at HKS
          have hl0 : bits.length = 0 := by rw [hne]; rfl
          rw [hl0]
          go_wp2_with fail
          go_roundw
          case rel => exact ⟨j + 1, vals', by omega, by simp, by rw [HKS.out]; exact H0.out.1, H0.out.2⟩
          case measure => simp [intOf]; omega
        · obtain ⟨b, o, c', hv', hbl', hcb⟩ := HB.out.1.plain hne
          rw [Value.slice.injEq] at hv'
          obtain ⟨rfl, _, rfl⟩ := hv'
          have hpos : 0 < bits.length := List.length_pos_iff.2 hne
          have hnS : ¬ S b := HB.out.2 hne b rfl
          obtain ⟨y, hy⟩ : ∃ y, bits[min j (bits.length - 1)]? = some y := ⟨_, List.getElem?_eq_getElem (by omega)⟩
          have hwp : wakeP bits j = y := by simp [wakeP, hy]
          have cb : wr.cell? ⟨b, o + min j (bits.length - 1), none⟩ = some (.bool y) := (H0.out.2.cell (p := ⟨b, o + min j (bits.length - 1), none⟩) hbl' hnS).trans (hcb _ _ hy)
          rw [hwp] at HKS
          clear hy hcb hwp
          have hcase : min j (bits.length - 1) = j ∧ (j : Int) ≤ (bits.length : Int) - 1 ∨ min j (bits.length - 1) = bits.length - 1 ∧ (bits.length : Int) - 1 < j := by omega
          rcases hcase with ⟨hm, hle⟩ | ⟨hm, hle⟩
          all_goals
            rw [hm] at cb
            clear hm
            cases y with
            | false =>
              rw [if_neg (by simp)] at HKS
              go_wp2_with fail
              go_roundw
              case rel => exact ⟨j + 1, vals', by omega, by simp, by rw [HKS.out]; exact H0.out.1, H0.out.2⟩
              case measure => simp [intOf]; omega
            | true =>
              rw [if_pos rfl] at HKS
              go_wp2_with fail
              go_region
              all_goals
                go_wp2_with fail
                go_roundw
                case rel => exact ⟨j + 1, _, by omega, by simp, by rw [HKS.out]; exact H'.out.1.same (Mod.same ((Mod.refl (fun _ => False) _).drew) (fun _ _ q => q)) (Nat.le_refl _), H'.out.2.drew⟩
                case measure => simp [intOf]; omega
      · have e : j = d.waiting.length := by omega
        subst e
        have f2 := hr.fz 2
        have f3 := hr.fz 3
        have f5 := hr.fz 5
        have c3 := hr.c3
        have c5 := hr.c5
        have HN := Lib.hid (And.intro hr hm)
        clear hr hm
        go_wp2_with fail
        go_returns
        obtain ⟨hn, hmn⟩ := HN.out.1.none_
        rw [List.take_length] at hn
        obtain ⟨h1, h2⟩ := hn.reset (w' := ((wr.setCell ⟨R, 2, none⟩ (.slice none 0 0)).setCell ⟨R, 5, none⟩ (.bool false)).setCell ⟨R, 3, none⟩ (.int .i64 0))
          { d with kept := keepL (wakeP bits) 0 d.waiting d.kept, waiting := [], down := false, armed := 0 } rfl rfl rfl (by simp) (by rw [setB (setB hn.hR 5 _) 3 _]; simp [rcells]) (setMR (setMR (Mod.refl _ _) _ _) _ _)
        exact ⟨rfl, S, ⟨_, _, _, _, h1⟩, (HN.out.2.tr hmn).tr h2, fun _ hj => .inl hj⟩
end
end Go.Proofs.Ytaaoabfmelpcpaa
