/- The document's device: Write. -/
import Derived.Test.YtaaoabfmelpcpaaRfD
import Derived.Deep.CutRange
namespace Go.Proofs.Ytaaoabfmelpcpaa
open Go.RowKit Go.Mo

section
variable {w w' w1 : World} {R : Nat} {S : Nat → Prop} {d : Dv} {n G : Nat} {W : Value} {vals : List Value} {we : List (Int × Value)}

theorem RefAt.drewN (h : RefAt w R S d n G W vals we) (q : Nat) : RefAt (w.drewN q) R S d n G W vals we := h.same ((drewN_mod w q).same (fun _ _ q => q)) (Nat.le_refl _)

theorem pair_cells (w : World) (a b : Value) (T : TypeId) : ∀ j u, [a, b][j]? = some u → (w.alloc (.cells #[a, b] T)).cell? ((⟨w.heap.size, 0, none⟩ : Addr).add j) = some u := by
  intro j u hj
  rw [add0, Nat.zero_add, cellB (newB w (.cells #[a, b] T))]
  simpa using hj

theorem byt_at {v : Value} {bs : Bs} {base : Nat} (ho : w.ownsRow 0 5 1 v bs.length (bs.map by8)) (hne : bs.length ≠ 0) (hat : ∀ j, v.ownBlock = some j → base ≤ j) : Byt w (fun j => base ≤ j) v bs := by
  rcases ho.2 with ⟨_, h0⟩ | ⟨g, cap, cur, rfl, _, hg, _⟩
  · exact absurd h0 hne
  · exact ⟨ho, g, cap, rfl, hat g rfl, ltB hg⟩

theorem fresh_in {k : Int} (h : RI d n) (h0 : 0 ≤ k) (h1 : k < n) : freshO d k = fresh d k := by
  have := h.sec
  simp [freshO, h0, show k < d.sectors by omega]

set_option maxRecDepth 100000 in
set_option maxHeartbeats 2000000 in
theorem rwrite_calls (h : RefAt w R S d n G W vals we) (hn : n ≤ 16384) (k : Int) (v : Value) (bs : Bs) (T : Nat → Prop) (hv : (∃ a c, v = .slice a bs.length c) ∧ (bs.length = 256 → Byt w T v bs)) (hlen0 : d.waiting.length < 1000000) :
    Calls Try.prog 24 #[.pointer (some ⟨R, 0, none⟩), .int .i64 k, v] w fun e w' => e = .returned (.int .i64 (writeE d k bs.length)) ∧ RefOp w w' R S (writeD d k bs) n := by
  have HT := Lib.hid (there_calls h k)
  have c5 := h.c5
  obtain ⟨⟨va, vc, rfl⟩, hvb⟩ := hv
  have hkeep : RefOp w w R S d n := RefOp.of ⟨h, Mod.refl _ _⟩
  cases hd : d.down with
  | true =>
    rw [hd] at c5
    rw [show writeE d k bs.length = 8 by simp [writeE, hd], show writeD d k bs = d by simp [writeD, hd]]
    clear h
    go_enter Try.func24, Try.ntmps24
    go_wp2_with fail
    go_ret
    exact ⟨rfl, hkeep⟩
  | false =>
    rw [hd] at c5
    by_cases hin : 0 ≤ k ∧ k < d.sectors
    · have ht : thereB d k = true := by simp [thereB, hin]
      rw [ht] at HT
      by_cases h256 : bs.length = 256
      · have hsec := h.ri.sec
        have hE : writeE d k bs.length = if d.armed = 1 then 8 else if fullD d k then 5 else 0 := by simp [writeE, hd, hin, h256]
        have hD : writeD d k bs = turnD (putD d k bs) := by simp [writeD, hd, hin, h256]
        rw [hE, hD]
        clear hE hD
        have HF := Lib.hid (fun q => rfresh_calls (h.drewN q) k)
        have HU := Lib.hid (fun q => rused_calls (h.drewN q) hn)
        have hfr := fresh_in h.ri hin.1 (by omega)
        rw [hfr] at HF
        have c0 := h.c0
        have lR := h.lt _ h.sR
        have hvb' := hvb h256
        rw [h256] at hvb' ⊢
        have HH := Lib.hid (And.intro h (And.intro hvb' h256))
        clear hvb hvb' hkeep hfr h256
        obtain ⟨i5, hi5, hz50, hz51, hz52⟩ := info_parts info5
        obtain ⟨i80, hi80, hz80, hz81, hz82⟩ := info_parts info80
        have hrow := h.row
        have c2 := h.c2
        have f2 := h.fz 2
        have hbd : we.length ≤ 1000000 := by rw [h.wait.length]; exact h.bound
        clear h
        go_enter Try.func24, Try.ntmps24
        go_wp2_with fail
        refine HT.out.mono ?_
        rintro e w2 ⟨rfl, rfl⟩
        go_upto_region 7 with fail
        go_cut [7] from 19 to 30 (fun f wx => f = .bool (fullD d k) ∧ ∃ q, wx = w.drewN q)
        case first =>
          cases hfr : fresh d k with
          | true =>
            rw [hfr] at HF
            by_cases hu : (used d : Int) = d.quota
            · have hfd : fullD d k = true := by simp [fullD, hfr, hu]
              rw [← hu] at c0
              go_quiet (first | (go_at_call 30; exact Calls.quiet_of_same ((HF.out _).mono fun _ _ q => ⟨q.1, q.2.symm⟩)) | (go_at_call 33; exact Calls.quiet_of_same ((HU.out _).mono fun _ _ q => ⟨q.1, q.2.symm⟩)))
              go_wp2_with fail
              go_meet
              exact ⟨by rw [hfd], nq, rfl⟩
            · have hfd : fullD d k = false := by simp [fullD, hfr, hu]
              go_quiet (first | (go_at_call 30; exact Calls.quiet_of_same ((HF.out _).mono fun _ _ q => ⟨q.1, q.2.symm⟩)) | (go_at_call 33; exact Calls.quiet_of_same ((HU.out _).mono fun _ _ q => ⟨q.1, q.2.symm⟩)))
              go_wp2_with fail
              go_meet
              exact ⟨by rw [hfd]; simp [hu], nq, rfl⟩
          | false =>
            rw [hfr] at HF
            have hfd : fullD d k = false := by simp [fullD, hfr]
            go_quiet (first | (go_at_call 30; exact Calls.quiet_of_same ((HF.out _).mono fun _ _ q => ⟨q.1, q.2.symm⟩)) | (go_at_call 33; exact Calls.quiet_of_same ((HU.out _).mono fun _ _ q => ⟨q.1, q.2.symm⟩)))
            go_wp2_with fail
            go_meet
            exact ⟨by rw [hfd], nq, rfl⟩
        case rest =>
          obtain ⟨rfl, q, rfl⟩ := hcut
          cases hfull : fullD d k with
          | true =>
            have hpd : putD d k bs = d := by simp [putD, hfull]
            have HTU := Lib.hid (rturn_calls (HH.out.1.drewN q) hd)
            go_wp2_with fail
            refine HTU.out.mono ?_
            rintro e w2 ⟨rfl, hr2, hm2⟩
            have HR2 := Lib.hid (RefOp.of ⟨hr2, (drewN_mod w q).any.tr hm2⟩)
            clear hr2 hm2
            by_cases ha : d.armed = 1
            · rw [show decide (d.armed = 1) = true by simp [ha]]
              go_wp2_with fail
              go_ret
              exact ⟨rfl, HR2.out⟩
            · rw [show decide (d.armed = 1) = false by simp [ha]]
              go_wp2_with fail
              go_ret
              exact ⟨rfl, HR2.out⟩
          | false =>
            have hpd : putD d k bs = { d with waiting := d.waiting ++ [(k, bs)] } := by simp [putD, hfull]
            have HPD := Lib.hid hpd
            clear hpd
            have h2 := HH.out.1.drewN q
            have hb2 : Byt (w.drewN q) T (.slice va 256 vc) bs := HH.out.2.1.same ((drewN_mod w q).same (fun _ _ q => q)) (Nat.le_refl _) (fun _ hk _ => hk)
            have m2 := drewN_mod w q
            have hl256 := HH.out.2.2
            clear HF HU HH c0 c2 f2 hrow
            generalize w.drewN q = w2 at *
            have c2 := h2.c2
            have f2 := h2.fz 2
            have hrow := h2.row
            have lR2 := h2.lt _ h2.sR
            have hnWR := h2.neWR
            have hlW : ∀ j, W.ownBlock = some j → j < w2.heap.size := fun j hj => h2.lt j (h2.sW j hj)
            obtain ⟨hbo, g, cap, hgv, _, hlg⟩ := hb2
            rw [Value.slice.injEq] at hgv
            obtain ⟨rfl, h9, rfl⟩ := hgv
            clear h9
            have hnews : ∀ j u, (bs.map by8)[j]? = some u → (w2.alloc (.cells #[] 5)).drew.cell? ((⟨g, 0, none⟩ : Addr).add j) = some u := fun j u hj => by
              rw [add0, Nat.zero_add]
              have h1 : w2.cell? ⟨g, j, none⟩ = some u := by have := hbo.cells (g := g) rfl j u hj; simpa [add0] using this
              exact (((Mod.refl (fun _ => False) w2).alloc (Obj.cells #[] 5)).cell (p := ⟨g, j, none⟩) hlg (fun q => q)).trans h1
            have hlit : ((w2.alloc (.cells #[] 5)).drew).ownsRow 0 5 1 (.slice (some ⟨w2.heap.size, 0, none⟩) 0 0) 0 [] := (World.ownsRow_lit (e := 5) (size := 1) (base := 0) w2 #[] 0 (Nat.zero_le _) (by simp [maxLen]) rfl).drew
            have c2a : ∀ o, (w2.alloc o).cell? ⟨R, 2, none⟩ = some W := fun o => (((Mod.refl (fun _ => False) w2).alloc o).cell (p := ⟨R, 2, none⟩) lR2 (fun q => q)).trans c2
            have HN := Lib.hid (And.intro h2 (And.intro m2 (And.intro hl256 (And.intro hnews (And.intro hlit (And.intro hrow lR2))))))
            clear h2 m2 hnews hlit hrow hbo hl256
            go_wp2_with fail
            go_region_law (first
              | (refine step_append_at _ rfl _ _ 56 rfl 5 i5 (.int .u8 0) 1 1 Try.underlying56 hi5 hz50 hz51 hz52 rfl (by decide) _ 0 [] rfl HN.out.2.2.2.2.1 ⟨g, 0, none⟩ 256 vc (bs.map by8) rfl (by simp [HN.out.2.2.1]) HN.out.2.2.2.1 (u8_one bs) (by simp [maxLen]) (by omega) ?_; intro v3 w3 ho3 hg3 hat3; replace ho3 : w3.ownsRow 0 5 1 v3 256 (bs.map by8) := (by simpa only [Nat.zero_add, List.nil_append] using ho3); obtain ⟨ga3, gc3, rfl⟩ := own_slice ho3; have m3 : Mod (fun _ => False) w2 w3 := ((Mod.refl _ w2).alloc _).drew.grown hg3 (fun j hk hl => by cases hk; exact absurd hl (Nat.lt_irrefl _)); have c23 := (m3.cell (p := ⟨R, 2, none⟩) lR2 (fun q => q)).trans c2; have c23a : ∀ o, (w3.alloc o).cell? ⟨R, 2, none⟩ = some W := (fun o => (((Mod.refl (fun _ => False) w3).alloc o).cell (p := ⟨R, 2, none⟩) (Nat.lt_of_lt_of_le lR2 m3.size) (fun q => q)).trans c23); have hrow3 := own_same HN.out.2.2.2.2.2.1 (fun j hj => m3.block j (hlW j hj) (fun q => q)); have H3 := Lib.hid (And.intro ho3 (And.intro hat3 (And.intro m3 hrow3))); clear ho3 hg3 hat3 m3 hrow3)
              | (refine step_append_at _ rfl _ _ 67 rfl 80 i80 _ 2 32 Try.underlying67 hi80 hz80 hz81 hz82 rfl (by decide) W we.length (flat we) rfl (H3.out.2.2.2.alloc _) ⟨w3.heap.size, 0, none⟩ 1 1 [.int .i64 k, .slice ga3 256 gc3] rfl rfl (pair_cells w3 _ _ _) (by intro u hu; simp only [List.mem_cons, List.not_mem_nil, or_false] at hu; rcases hu with rfl | rfl <;> rfl) (by simp [maxLen]; omega) (by omega) ?_; intro v4 w4 ho4 hg4 hat4; obtain ⟨ga4, gc4, rfl⟩ := own_slice ho4; have m4 : Mod (fun j => W.ownBlock = some j) (w3.alloc (.cells #[.int .i64 k, .slice ga3 256 gc3] 80)) w4 := (Mod.refl _ _).grown hg4 (fun j hj _ => hj); have hR4 : w4.heap[R]? = some (.cells (rcells G W n d) 69 (0, 0)) := (m4.block R (Nat.lt_of_lt_of_le (Nat.lt_of_lt_of_le lR2 H3.out.2.2.1.size) (by simp)) hnWR).trans (allocB ((H3.out.2.2.1.block R lR2 (fun q => q)).trans HN.out.1.hR) _); have c24 : w4.cell? ⟨R, 2, none⟩ = some W := (by rw [cellB hR4]; rfl); have f24 := frozB hR4 2; have H4 := Lib.hid (And.intro ho4 (And.intro hat4 m4)); clear ho4 hat4 hg4 m4 hR4))
            all_goals
              have hl256 := HN.out.2.2.1
              have m24 : Mod (fun j => W.ownBlock = some j) w2 w4 := (H3.out.2.2.1.alloc _).any.tr H4.out.2.2
              have hsz3 := H3.out.2.2.1.size
              have hb3 : Byt w3 (fun j => w2.heap.size ≤ j) (.slice ga3 256 gc3) bs := byt_at (by rw [hl256]; exact H3.out.1) (by omega) (fun j hj => by
                rcases H3.out.2.1 j hj with q | q
                · cases q; exact Nat.le_refl _
                · exact Nat.le_trans (by simp) q)
              have hb4 : Byt w4 (fun j => w2.heap.size ≤ j) (.slice ga3 256 gc3) bs :=
                (hb3.same (((Mod.refl (fun _ => False) w3).alloc (.cells #[.int .i64 k, .slice ga3 256 gc3] 80)).same (fun _ _ q => q)) (by simp) (fun _ hj _ => hj)).same (H4.out.2.2.same (fun j hj q => by have := hlW j q; omega)) H4.out.2.2.size (fun _ hj _ => hj)
              obtain ⟨S', hr5, hm5, hs5⟩ := HN.out.1.put hin.1 (by omega) hl256 m24 H4.out.1 (fun j hj => (H4.out.2.1 j hj).imp id (fun q => Nat.le_trans (by simp; omega) q)) hb4 hlen0
              have HTU := Lib.hid (rturn_calls hr5 hd)
              have hsz2 := HN.out.2.1.size
              have HP := Lib.hid (And.intro (HN.out.2.1.any.tr hm5) (fun j (hj : S' j) => (hs5 j hj).imp id (fun q => Nat.le_trans hsz2 q)))
              clear hr5 hm5 hs5 hb3 hb4 m24 hl256 hsz3
              go_wp2_with fail
              refine HTU.out.mono ?_
              rintro e w6 ⟨rfl, hr6, hm6⟩
              have hfin : RefOp w w6 R S (turnD (putD d k bs)) n := by
                rw [HPD.out]
                exact ⟨S', ⟨_, _, _, _, hr6⟩, HP.out.1.trans hm6 (fun j q l => (HP.out.2 j q).elim id (fun q => by omega)), HP.out.2⟩
              have HFIN := Lib.hid hfin
              clear hfin hr6 hm6
              by_cases ha : d.armed = 1
              · rw [show decide (d.armed = 1) = true by simp [ha]]
                go_wp2_with fail
                go_ret
                exact ⟨rfl, HFIN.out⟩
              · rw [show decide (d.armed = 1) = false by simp [ha]]
                go_wp2_with fail
                go_ret
                exact ⟨rfl, HFIN.out⟩
      · rw [show writeE d k bs.length = 2 by simp [writeE, hd, hin, h256], show writeD d k bs = d by simp [writeD, h256]]
        have h256' : ¬ (bs.length : Int) = 256 := by omega
        clear h hvb
        go_enter Try.func24, Try.ntmps24
        go_wp2_with fail
        refine HT.out.mono ?_
        rintro e w1 ⟨rfl, rfl⟩
        go_wp2_with fail
        go_ret
        exact ⟨rfl, hkeep⟩
    · have ht : thereB d k = false := by
        simp only [thereB, Bool.and_eq_false_iff, decide_eq_false_iff_not]
        by_cases h0 : 0 ≤ k
        · exact .inr fun q => hin ⟨h0, q⟩
        · exact .inl h0
      rw [ht] at HT
      rw [show writeE d k bs.length = 7 by simp [writeE, hd, hin], show writeD d k bs = d by simp [writeD, hin]]
      clear h hvb
      go_enter Try.func24, Try.ntmps24
      go_wp2_with fail
      refine HT.out.mono ?_
      rintro e w1 ⟨rfl, rfl⟩
      go_wp2_with fail
      go_ret
      exact ⟨rfl, hkeep⟩
end
end Go.Proofs.Ytaaoabfmelpcpaa
