/- The document's device: Read. -/
import Derived.Test.YtaaoabfmelpcpaaRfB
import Derived.Deep.CutBlock
namespace Go.Proofs.Ytaaoabfmelpcpaa
open Go.RowKit Go.Mo

/-- What is read of sector k when the first j that wait are looked at. -/
def lastTo (d : Dv) (k : Int) (j : Nat) : Bs := match lk (d.waiting.take j).reverse k with | some b => b | none => (lk d.kept k).getD zeros
theorem lastTo_zero (d : Dv) (k : Int) : lastTo d k 0 = (lk d.kept k).getD zeros := by simp [lastTo, lk]
theorem lastTo_all (d : Dv) (k : Int) : lastTo d k d.waiting.length = last d k := by
  unfold lastTo last
  rw [List.take_length]
  cases lk d.waiting.reverse k <;> rfl
theorem lastTo_succ (d : Dv) (k : Int) (j : Nat) (x : Int × Bs) (hx : d.waiting[j]? = some x) : lastTo d k (j + 1) = if x.1 = k then x.2 else lastTo d k j := by
  have e : (d.waiting.take (j + 1)).reverse = x :: (d.waiting.take j).reverse := by rw [List.take_add_one, hx]; simp
  unfold lastTo
  rw [e]
  by_cases h : x.1 = k <;> simp [lk, h]

/-- 256 cells, the first j of them those of b. -/
def cpTo (b : Bs) (j : Nat) : List Value := (List.range 256).map fun i => if i < j then by8 (b.getD i 0) else .int .u8 0
theorem cpTo_length (b : Bs) (j : Nat) : (cpTo b j).length = 256 := by simp [cpTo]
theorem cpTo_get (b : Bs) (j : Nat) (h : j < 256) : (cpTo b j)[j]? = some (.int .u8 0) := by simp [cpTo, h]
theorem cpTo_zero (b : Bs) : cpTo b 0 = List.replicate 256 (.int .u8 0) := by
  apply List.ext_getElem?
  intro j
  simp only [cpTo, List.getElem?_map, List.getElem?_replicate]
  by_cases h : j < 256
  · simp [h]
  · simp [h]
theorem cpTo_all (b : Bs) (hb : b.length = 256) : cpTo b 256 = b.map by8 := by
  apply List.ext_getElem?
  intro j
  simp only [cpTo, List.getElem?_map]
  by_cases h : j < 256
  · simp [h, hb]
  · simp [h, List.getElem?_eq_none (show b.length ≤ j by omega)]
theorem cpTo_succ (b : Bs) (i : Nat) : (cpTo b i).set i (by8 (b.getD i 0)) = cpTo b (i + 1) := by
  apply List.ext_getElem?
  intro j
  simp only [cpTo, List.getElem?_map, List.getElem?_set, List.length_map, List.length_range]
  by_cases h : j < 256
  · by_cases e : i = j
    · subst e; simp [h]
    · by_cases h2 : j < i
      · simp [e, h, h2, Nat.lt_succ_of_lt h2]
      · have : ¬ j < i + 1 := by omega
        simp [e, h, h2, this]
  · by_cases e : i = j
    · subst e; simp [h]
    · simp [e, h]
attribute [irreducible] cpTo

section
variable {w w' : World} {R : Nat} {S : Nat → Prop} {d : Dv} {n G : Nat} {W : Value} {vals : List Value} {we : List (Int × Value)}

set_option maxRecDepth 100000 in
set_option maxHeartbeats 2000000 in
theorem rread_calls (h : RefAt w R S d n G W vals we) (k : Int) : Calls Try.prog 25 #[.pointer (some ⟨R, 0, none⟩), .int .i64 k] w fun e w' =>
    ∃ v, e = .returned (.tuple #[v, .int .i64 (readE d k)]) ∧ (if readE d k = 0 then Byt w' (fun j => w.heap.size ≤ j) v (last d k) else v = .slice none 0 0) ∧ Mod (fun _ => False) w w' := by
  have HT := Lib.hid (there_calls h k)
  have c5 := h.c5
  cases hd : d.down with
  | true =>
    rw [hd] at c5
    rw [show readE d k = 8 by simp [readE, hd]]
    clear h
    go_enter Try.func25, Try.ntmps25
    go_wp2_with fail
    go_returns
    exact ⟨_, rfl, rfl, Mod.refl _ _⟩
  | false =>
    rw [hd] at c5
    by_cases hin : 0 ≤ k ∧ k < d.sectors
    · have ht : thereB d k = true := by simp [thereB, hin]
      rw [ht] at HT
      rw [show readE d k = 0 by simp [readE, hd, hin]]
      have hsec := h.ri.sec
      obtain ⟨kk, rfl⟩ : ∃ kk : Nat, k = kk := ⟨k.toNat, by omega⟩
      obtain ⟨v, hv, cv, hkc⟩ := h.at (k := kk) (by omega)
      have c1 := h.c1
      have c2 := h.c2
      have hkn : (kk : Int) < n := by omega
      obtain ⟨i0, hi, hz0, hz1, hz2⟩ := info_parts info5
      have HH := Lib.hid (And.intro h (And.intro hkc (And.intro cv (And.intro c1 (And.intro c2 c5)))))
      have hb := h.bound
      have lR := h.lt _ h.sR
      have lG := h.lt _ h.sG
      clear h hkc
      go_enter Try.func25, Try.ntmps25
      go_wp2_with fail
      refine HT.out.mono ?_
      rintro e w1 ⟨rfl, rfl⟩
      clear cv c1 c2 c5
      go_upto_block 0 with (first | (at_make; refine wpList_make_full _ rfl _ _ 56 rfl w.heap.size 5 i0 (.int .u8 0) 1 Try.underlying56 hi hz0 hz1 .i64 .i64 256 256 256 rfl rfl rfl rfl (by omega) (by simp [maxLen]) (Nat.le_refl _) ?_; intro w1 ho1 hg1))
      have hm1 : Mod (fun _ => False) w w1 := (Mod.refl _ w).grown hg1 (fun k hk _ => by cases hk)
      have ho2 : ∀ b : Bs, w1.ownsRow w.heap.size 5 1 (.slice (some ⟨w.heap.size, 0, none⟩) 256 256) 256 (cpTo b 0) := fun b => by rw [cpTo_zero, ← toList_madeCells_one]; exact ho1
      have H1 := Lib.hid (And.intro hm1 ho2)
      clear ho1 hg1 hm1 ho2
      go_cut [7] from 18 to 42 (fun _ wx => Byt wx (fun j => w.heap.size ≤ j) (.slice (some ⟨w.heap.size, 0, none⟩) 256 256) ((lk d.kept kk).getD zeros) ∧ Mod (fun _ => False) w wx)
      case first =>
        cases hlk : lk d.kept kk with
        | none =>
          have hkc := HH.out.2.1
          rw [hlk] at hkc
          have hkc : v = .slice none 0 0 := hkc
          subst hkc
          have c1 := (H1.out.1.cell (p := ⟨R, 1, none⟩) lR (fun q => q)).trans HH.out.2.2.2.1
          have cv := (H1.out.1.cell (p := ⟨G, kk, none⟩) lG (fun q => q)).trans HH.out.2.2.1
          clear hkc
          go_wp2_with fail
          go_loopw [7] (fun i wx => i = .int .i64 0 ∧ wx = w1) (fun _ _ => 0)
          case atStart => exact ⟨rfl, rfl⟩
          case round =>
            obtain ⟨rfl, rfl⟩ := hrel
            go_wp2_with fail
            go_meet
            refine ⟨?_, H1.out.1⟩
            refine byt_of_own ?_ (by simp)
            have := H1.out.2 zeros
            have hz : cpTo zeros 0 = zeros.map by8 := by
              rw [cpTo_zero]; unfold zeros; rw [List.map_replicate]; rfl
            rw [hz] at this
            rw [hlk, Option.getD_none, zeros_length]; exact this
        | some b =>
          have hkc := HH.out.2.1
          rw [hlk] at hkc
          obtain ⟨hbo, g, cap, rfl, hSg, hgl⟩ := hkc
          have hb256 : b.length = 256 := by obtain ⟨x, hx, e⟩ := lk_mem hlk; rw [← e]; exact HH.out.1.ri.l1 x hx
          rw [hb256] at hbo HH
          have HB := Lib.hid hbo
          clear hbo
          go_wp2_with fail
          go_loopw [7] (fun i wx => ∃ j : Nat, j ≤ 256 ∧ i = .int .i64 j ∧ wx.ownsRow w.heap.size 5 1 (.slice (some ⟨w.heap.size, 0, none⟩) 256 256) 256 (cpTo b j) ∧ Mod (fun _ => False) w wx) (fun i _ => 256 - (intOf i).toNat)
          case atStart => exact ⟨0, by omega, rfl, H1.out.2 b, H1.out.1⟩
          case round =>
            obtain ⟨j, hj, rfl, ho, hm⟩ := hrel
            have c1 := (hm.cell (p := ⟨R, 1, none⟩) lR (fun q => q)).trans HH.out.2.2.2.1
            have cv := (hm.cell (p := ⟨G, kk, none⟩) lG (fun q => q)).trans HH.out.2.2.1
            by_cases hlt : j < 256
            · have hc := ho.cellAt j (by omega)
              have hf := ho.frozenAt j
              rw [cpTo_get b j hlt] at hc
              obtain ⟨y, hy⟩ : ∃ y, b[j]? = some y := ⟨_, List.getElem?_eq_getElem (by omega)⟩
              have hgy : b.getD j 0 = y := by simp [List.getD, hy]
              have hst := ho.stored j (by8 (b.getD j 0))
              rw [cpTo_succ, hgy] at hst
              obtain ⟨hst1, hst2⟩ := hst
              have hel : wr.cell? ⟨g, j, none⟩ = some (.int .u8 (y.toNat : Int)) := (hm.cell (p := ⟨g, j, none⟩) hgl (fun q => q)).trans (by
                have := HB.out.cellAt j (by omega)
                rw [this, List.getElem?_map, hy]
                rfl)
              have HS1 := Lib.hid hst1
              have HS2 := Lib.hid hst2
              have HM := Lib.hid hm
              clear hst1 hst2 ho hm
              go_wp2_with fail
              go_roundw
              case rel => exact ⟨j + 1, by omega, by simp, HS1.out, HM.out.grown HS2.out (fun j hj hl => by cases hj; omega)⟩
              case measure => simp [intOf]; omega
            · have e : j = 256 := by omega
              subst e
              rw [cpTo_all b hb256] at ho
              have HO := Lib.hid (And.intro ho hm)
              clear ho hm
              go_wp2_with fail
              go_meet
              exact ⟨byt_of_own (by rw [hlk, Option.getD_some, hb256]; exact HO.out.1) (by simp), HO.out.2⟩
      case rest =>
        have HC := Lib.hid hcut
        clear hcut H1
        obtain ⟨a, c, hW⟩ := HH.out.1.wshape
        go_wp2_with fail
        go_loopw [6, 8] (fun o i wx => ∃ j : Nat, j ≤ d.waiting.length ∧ i = .int .i64 j ∧ Byt wx (fun j => w.heap.size ≤ j) o (lastTo d kk j) ∧ Mod (fun _ => False) w wx) (fun _ i _ => d.waiting.length - (intOf i).toNat)
        case atStart => exact ⟨0, by omega, rfl, by rw [lastTo_zero]; exact HC.out.1, HC.out.2⟩
        case round =>
          obtain ⟨j, hj, rfl, hby, hm⟩ := hrel
          have c2 := (hm.cell (p := ⟨R, 2, none⟩) lR (fun q => q)).trans HH.out.2.2.2.2.1
          rw [hW] at c2
          have HM := Lib.hid (And.intro hby hm)
          clear hby hm
          by_cases hlt : j < d.waiting.length
          · obtain ⟨x, hx⟩ : ∃ x, d.waiting[j]? = some x := ⟨_, List.getElem?_eq_getElem hlt⟩
            obtain ⟨g, cap, v', hWg, hSg, _, k0, k1, hxb⟩ := HH.out.1.rowat hx
            rw [hW] at hWg
            cases hWg
            have lg := HH.out.1.lt g hSg
            have e0 := (HM.out.2.cell (p := ⟨g, j * 2, none⟩) lg (fun q => q)).trans k0
            have e1 := (HM.out.2.cell (p := ⟨g, j * 2 + 1, none⟩) lg (fun q => q)).trans k1
            have hls := lastTo_succ d kk j x hx
            clear k0 k1
            by_cases hxk : x.1 = kk
            · rw [if_pos hxk] at hls
              rw [hxk] at e0
              obtain ⟨hxo, g2, cap2, rfl, hS2, hl2⟩ := hxb
              have HX := Lib.hid hxo
              have HX256 := Lib.hid (show x.2.length = 256 from HH.out.1.ri.l2 x (List.mem_of_getElem? hx))
              have c2' : ∀ o, (wr.alloc o).cell? ⟨R, 2, none⟩ = some (.slice (some ⟨g, 0, none⟩) d.waiting.length c) := fun o => (((Mod.refl (fun _ => False) wr).alloc o).cell (p := ⟨R, 2, none⟩) (Nat.lt_of_lt_of_le lR HM.out.2.size) (fun q => q)).trans c2
              have e1' : ∀ o, (wr.alloc o).cell? ⟨g, j * 2 + 1, none⟩ = some (.slice (some ⟨g2, 0, none⟩) x.2.length cap2) := fun o => (((Mod.refl (fun _ => False) wr).alloc o).cell (p := ⟨g, j * 2 + 1, none⟩) (Nat.lt_of_lt_of_le lg HM.out.2.size) (fun q => q)).trans e1
              have hlit := World.ownsRow_lit (e := 5) (size := 1) (base := wr.heap.size) wr #[] 0 (Nat.le_refl _) (by simp [maxLen]) rfl
              have HL := Lib.hid hls
              clear hls hxo
              go_wp2_with (first | (at_builtin; refine wpList_append_own _ rfl _ _ 56 rfl wr.heap.size 5 i0 (.int .u8 0) 1 1 Try.underlying56 hi hz0 hz1 hz2 rfl (by decide) _ _ _ rfl hlit ⟨g2, 0, none⟩ x.2.length cap2 (x.2.map by8) rfl (by simp) ?c1 (u8_one x.2) ?c3 ?c4 (by simp) ?_))
              case c1 =>
                intro j' u hj'
                have h1 := (HM.out.2.cell (p := ⟨g2, j', none⟩) hl2 (fun q => q)).trans (by have := HX.out.cells (g := g2) rfl j' (by8 u) (by simp [hj']); simpa [add0] using this)
                have h2 := (((Mod.refl (fun _ => False) wr).alloc (Obj.cells #[] 5)).cell (p := ⟨g2, j', none⟩) (Nat.lt_of_lt_of_le hl2 HM.out.2.size) (fun q => q)).trans h1
                simpa [add0] using h2
              case c3 => have := HX256.out; simp [maxLen]; omega
              case c4 => exact Nat.le_trans (Nat.le_of_eq HX256.out) (by decide)
              intro v' w2 ho2 hg2 hne2
              have hne' : v' ≠ .slice none 0 0 := by simpa using hne2
              have hb2 : Byt w2 (fun j => wr.heap.size ≤ j) v' x.2 := byt_of_own (by simpa using ho2) hne'
              have hm2 : Mod (fun _ => False) wr w2 := ((Mod.refl _ wr).alloc _).grown hg2 (fun k hk hl => by simp [Value.ownBlock] at hk; omega)
              have H2 := Lib.hid (And.intro hb2 hm2)
              clear hb2 hm2 ho2 hg2 hne2 hne'
              go_wp2_with fail
              go_roundw
              case rel =>
                refine ⟨j + 1, by omega, by simp, ?_, HM.out.2.tr H2.out.2⟩
                rw [HL.out]
                exact H2.out.1.same (fun _ _ _ => rfl) (Nat.le_refl _) (fun i hi _ => Nat.le_trans HM.out.2.size hi)
              case measure => simp [intOf]; omega
            · rw [if_neg hxk] at hls
              have HL := Lib.hid hls
              clear hls
              go_wp2_with fail
              go_roundw
              case rel => exact ⟨j + 1, by omega, by simp, by rw [HL.out]; exact HM.out.1, HM.out.2⟩
              case measure => simp [intOf]; omega
          · have e : j = d.waiting.length := by omega
            subst e
            go_wp2_with fail
            go_returns
            exact ⟨_, rfl, lastTo_all d kk ▸ HM.out.1, HM.out.2⟩
    · have ht : thereB d k = false := by
        simp only [thereB, Bool.and_eq_false_iff, decide_eq_false_iff_not]
        by_cases h0 : 0 ≤ k
        · exact .inr fun q => hin ⟨h0, q⟩
        · exact .inl h0
      rw [ht] at HT
      rw [show readE d k = 7 by simp [readE, hd, hin]]
      clear h
      go_enter Try.func25, Try.ntmps25
      go_wp2_with fail
      refine HT.out.mono ?_
      rintro e w1 ⟨rfl, rfl⟩
      go_wp2_with fail
      go_returns
      exact ⟨_, rfl, rfl, Mod.refl _ _⟩
end
end Go.Proofs.Ytaaoabfmelpcpaa
