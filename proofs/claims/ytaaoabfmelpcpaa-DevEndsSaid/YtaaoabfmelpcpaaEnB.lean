/- DevEnds' walk: sizes and quotas at their ends. -/
import Derived.Test.YtaaoabfmelpcpaaEnA
import Derived.Deep.CutBlock
namespace Go.Proofs.Ytaaoabfmelpcpaa
open Go.RowKit Go.Mo

def endN : List Int := [-9223372036854775808, -1, 0, 1, 2, 16384, 16385, 9223372036854775807]
def endV (i : Nat) : Int := endN.getD i 0

theorem new_any (s q : Int) (W : World) : Calls Try.prog 9 #[.int .i64 s, .int .i64 q] W fun e w' => ∃ dp c, e = .returned (.tuple #[dp, .int .i64 c]) ∧ (badNew s q ∧ dp = .pointer none ∧ c = 2 ∨ ¬ badNew s q ∧ (∃ B, dp = .pointer (some ⟨B, 0, none⟩)) ∧ c = 0) ∧ Mod (fun _ => False) W w' := by
  by_cases h : badNew s q
  · exact (new_bad s q h W).mono fun e w' q => ⟨_, _, q.1, .inl ⟨h, rfl, rfl⟩, q.2 ▸ Mod.refl _ _⟩
  · refine (new_ok s q h W).mono ?_
    rintro e w' ⟨B, S, he, _, hm, _⟩
    exact ⟨_, _, he, .inr ⟨h, ⟨B, rfl⟩, rfl⟩, hm⟩
theorem rnew_any (s q : Int) (W : World) : Calls Try.prog 10 #[.int .i64 s, .int .i64 q] W fun e w' => ∃ dp c, e = .returned (.tuple #[dp, .int .i64 c]) ∧ (badNew s q ∧ dp = .pointer none ∧ c = 2 ∨ ¬ badNew s q ∧ (∃ B, dp = .pointer (some ⟨B, 0, none⟩)) ∧ c = 0) ∧ Mod (fun _ => False) W w' := by
  by_cases h : badNew s q
  · exact (rnew_bad s q h W).mono fun e w' q => ⟨_, _, q.1, .inl ⟨h, rfl, rfl⟩, q.2 ▸ Mod.refl _ _⟩
  · obtain ⟨n, rfl⟩ : ∃ n : Nat, s = n := ⟨s.toNat, by unfold badNew at h; omega⟩
    refine (rnew_ok n q h W).mono ?_
    rintro e w' ⟨R, S, he, _, hm, _⟩
    exact ⟨_, _, he, .inr ⟨h, ⟨R, rfl⟩, rfl⟩, hm⟩

theorem ekeepA {w : World} {q : Addr} {v : Value} (h : w.cell? q = some v) (o : Obj) : (w.alloc o).cell? q = some v :=
  (((Mod.refl (fun _ => False) w).alloc o).cell (World.block_lt_of_cell? w _ h) (fun q => q)).trans h

set_option maxRecDepth 100000 in
set_option maxHeartbeats 8000000 in
theorem devends_ok (w : World) : Calls Try.prog 5 #[] w fun e w' => e = .returned (.bool true) ∧ Mod (fun _ => False) w w' := by
  have HA := Lib.hid awake_ok
  go_enter Try.func5, Try.ntmps5
  go_wp2_with fail
  obtain ⟨w1, hw1⟩ : ∃ w1, w.alloc (.cells (endN.map (Value.int .i64)).toArray 3) = w1 := ⟨_, rfl⟩
  have hm1 : Mod (fun _ => False) w w1 := by rw [← hw1]; exact (Mod.refl _ w).alloc _
  have hN : ∀ i, i < 8 → w1.cell? ⟨w.heap.size, i, none⟩ = some (.int .i64 (endV i)) := fun i hi => by
    rw [← hw1, cellB (newB _ _)]
    have : endN[i]? = some (endV i) := by
      unfold endV
      rw [List.getD_eq_getElem?_getD, List.getElem?_eq_getElem (by simpa [endN] using hi)]; rfl
    simp [this]
  have hlt1 : w.heap.size < w1.heap.size := by rw [← hw1]; simp
  have HW1 := Lib.hid (And.intro hm1 hN)
  rw [show (endN.map (Value.int .i64)).toArray = #[.int .i64 (-9223372036854775808), .int .i64 (-1), .int .i64 0, .int .i64 1, .int .i64 2, .int .i64 16384, .int .i64 16385, .int .i64 9223372036854775807] from rfl] at hw1
  rw [hw1]
  clear hm1 hN hw1
  go_loopw [2] (fun i wr => ∃ j : Nat, j ≤ 8 ∧ i = .int .i64 j ∧ Mod (fun _ => False) w1 wr) (fun i _ => 8 - (intOf i).toNat)
  case atStart => exact ⟨0, by omega, rfl, Mod.refl _ _⟩
  case round =>
    obtain ⟨i, hi, rfl, hm⟩ := hrel
    by_cases hlt : i < 8
    · have HM := Lib.hid hm
      clear hm
      go_wp2_with fail
      generalize decide ((i : Int) < 8) = bi
      go_loopw [3] (fun i wr => ∃ j : Nat, j ≤ 8 ∧ i = .int .i64 j ∧ Mod (fun _ => False) w1 wr) (fun i _ => 8 - (intOf i).toNat)
      case atStart => exact ⟨0, by omega, rfl, HM.out⟩
      case round =>
        obtain ⟨k, hk, rfl, hm⟩ := hrel
        by_cases hlk : k < 8
        · have n0 := (hm.cell (p := ⟨w.heap.size, i, none⟩) hlt1 (fun q => q)).trans (HW1.out.2 i hlt)
          have n1 := (hm.cell (p := ⟨w.heap.size, k, none⟩) hlt1 (fun q => q)).trans (HW1.out.2 k hlk)
          obtain ⟨vi, hvi⟩ : ∃ vi, endV i = vi := ⟨_, rfl⟩
          obtain ⟨vk, hvk⟩ : ∃ vk, endV k = vk := ⟨_, rfl⟩
          rw [hvi] at n0
          rw [hvk] at n1
          have HMr := Lib.hid hm
          have HN := Lib.hid (new_any vi vk)
          have HR := Lib.hid (rnew_any vi vk)
          have HF := Lib.hid (fun (W W' : World) (hm : Mod (fun _ => False) W W') (h0 : W.cell? ⟨w.heap.size, i, none⟩ = some (.int .i64 vi)) (h1 : W.cell? ⟨w.heap.size, k, none⟩ = some (.int .i64 vk)) =>
            And.intro ((hm.cell (p := ⟨w.heap.size, i, none⟩) (World.block_lt_of_cell? W _ h0) (fun q => q)).trans h0) ((hm.cell (p := ⟨w.heap.size, k, none⟩) (World.block_lt_of_cell? W _ h1) (fun q => q)).trans h1))
          clear hm hvi hvk
          go_wp2_with fail
          go_region_held3 (fun w' => w'.cell? ⟨w.heap.size, i, none⟩ = some (.int .i64 vi) ∧ w'.cell? ⟨w.heap.size, k, none⟩ = some (.int .i64 vk))
            (first | exact HQ.out | exact ⟨n0, n1⟩)
            (first
              | (go_at_call 9; refine (HN.out _).mono ?_; rintro e w2 ⟨dp, ec, rfl, hor, hm2⟩; have HQ := Lib.hid (HF.out _ _ hm2 n0 n1); have HE := Lib.hid (And.intro hor hm2); clear hor hm2))
          have HQ2 := Lib.hid HQ.out
          have HE2 := Lib.hid (And.intro HE.out.1 (HMr.out.tr (((Mod.refl _ wr).drew).tr HE.out.2)))
          rename_i hHeld
          clear hHeld HQ HE n0 n1
          obtain ⟨n0, n1⟩ := id HQ2.out
          go_wp2_with fail
          go_region_held3 (fun w' => w'.cell? ⟨w.heap.size, i, none⟩ = some (.int .i64 vi) ∧ w'.cell? ⟨w.heap.size, k, none⟩ = some (.int .i64 vk))
            (first | exact HQ.out | exact ⟨n0, n1⟩)
            (first
              | (go_at_call 10; refine (HR.out _).mono ?_; rintro e w3 ⟨dq, ed, rfl, hor, hm2⟩; have HQ := Lib.hid (HF.out _ _ hm2 n0 n1); have HE := Lib.hid (And.intro hor hm2); clear hor hm2))
          have HQ3 := Lib.hid HQ.out
          have HE3 := Lib.hid (And.intro HE.out.1 (HE2.out.2.tr (((Mod.refl _ w2).drew).tr HE.out.2)))
          rename_i hHeld
          clear hHeld HQ HE n0 n1
          obtain ⟨n0, n1⟩ := id HQ3.out
          have hec : ec = ed ∧ (dp = .pointer none ∧ ec = 2 ∨ (∃ B, dp = .pointer (some ⟨B, 0, none⟩)) ∧ ec = 0) := by
            rcases HE2.out.1 with ⟨h1, h2, h3⟩ | ⟨h1, h2, h3⟩ <;> rcases HE3.out.1 with ⟨g1, g2, g3⟩ | ⟨g1, g2, g3⟩
            · exact ⟨h3.trans g3.symm, .inl ⟨h2, h3⟩⟩
            · exact absurd h1 g1
            · exact absurd g1 h1
            · exact ⟨h3.trans g3.symm, .inr ⟨h2, h3⟩⟩
          have HM3 := Lib.hid HE3.out.2
          clear HE2 HE3 HQ2 HQ3
          obtain ⟨rfl, hec⟩ := hec
          have hd3 : ∀ W : World, Mod (fun _ => False) w3 W → Calls Try.prog 3 #[.int .i64 vi, .int .i64 vk, .slice (some ⟨w3.heap.size, 0, none⟩) 3 3] ((w3.alloc (.cells #[.int .i64 0, .int .i64 (vk.tmod 5), .int .i64 9, .slice none 0 0, .int .i64 1, .int .i64 vi, .int .i64 0, .slice none 0 0, .int .i64 6, .int .i64 vk, .int .i64 0, .slice none 0 0] 36)).drew) fun e w' => e = .returned (.bool true) ∧ Mod (fun _ => False) ((w3.alloc (.cells #[.int .i64 0, .int .i64 (vk.tmod 5), .int .i64 9, .slice none 0 0, .int .i64 1, .int .i64 vi, .int .i64 0, .slice none 0 0, .int .i64 6, .int .i64 vk, .int .i64 0, .slice none 0 0] 36)).drew) w' := fun W _ => by
            refine devtells_any _ vi vk _ [⟨0, vk.tmod 5, 9, []⟩, ⟨1, vi, 0, []⟩, ⟨6, vk, 0, []⟩] ?_
            have ho := (World.ownsRow_lit (e := 36) (size := 4) (base := 0) w3 #[.int .i64 0, .int .i64 (vk.tmod 5), .int .i64 9, .slice none 0 0, .int .i64 1, .int .i64 vi, .int .i64 0, .slice none 0 0, .int .i64 6, .int .i64 vk, .int .i64 0, .slice none 0 0] 3 (Nat.zero_le _) (by simp [maxLen]) rfl).drew
            refine deeds_of_own (l := [(⟨0, vk.tmod 5, 9, []⟩, .slice none 0 0), (⟨1, vi, 0, []⟩, .slice none 0 0), (⟨6, vk, 0, []⟩, .slice none 0 0)]) (by rw [dflat_three]; exact ho) ?_
            intro y hy
            simp only [List.mem_cons, List.not_mem_nil, or_false] at hy
            rcases hy with rfl | rfl | rfl
            · exact dok_nil _ _ _ _ (by omega)
            · exact dok_nil _ _ _ _ (by omega)
            · exact dok_nil _ _ _ _ (by omega)
          have HD3 := Lib.hid (hd3 w3 (Mod.refl _ _))
          clear hd3
          rcases hec with ⟨rfl, rfl⟩ | ⟨⟨B, rfl⟩, rfl⟩
          all_goals
            by_cases h20 : vi < 20
            · go_wp2_with fail
              go_region_held3 (fun w' => w'.cell? ⟨w.heap.size, i, none⟩ = some (.int .i64 vi) ∧ w'.cell? ⟨w.heap.size, k, none⟩ = some (.int .i64 vk))
                (first | exact HQ.out | exact ⟨n0, n1⟩ | exact ⟨ekeepA n0 _, ekeepA n1 _⟩)
                (first
                  | (go_at_call 3; refine (HD3.out).mono ?_; rintro e w4 ⟨rfl, hm4⟩; have HQ := Lib.hid (HF.out _ _ hm4 (ekeepA n0 _) (ekeepA n1 _)); have HE := Lib.hid hm4; clear hm4))
              all_goals
                go_wp2_with fail
                go_roundw
                case rel => exact ⟨k + 1, by omega, by simp, HM3.out.tr ((((Mod.refl _ w3).alloc _).drew).tr HE.out)⟩
                case measure => simp [intOf]; omega
            · have hdec : decide (vi < 20) = false := by simp; omega
              go_wp2_with fail
              go_quiet (fail)
              go_wp2_with fail
              go_roundw
              case rel => exact ⟨k + 1, by omega, by simp, HM3.out.tr (drewN_mod w3 _)⟩
              case measure => simp [intOf]; omega
        · have HMr := Lib.hid hm
          clear hm
          go_wp2_with fail
          go_roundw
          case rel => exact ⟨i + 1, by omega, by simp, HMr.out⟩
          case measure => simp [intOf]; omega
    · have HMr := Lib.hid (HW1.out.1.tr hm)
      clear hm
      go_wp2_with fail
      generalize decide ((i : Int) < 8) = bi
      go_loopw [8] (fun i wr => ∃ j : Nat, j ≤ 6 ∧ i = .int .i64 j ∧ Mod (fun _ => False) w wr) (fun i _ => 6 - (intOf i).toNat)
      case atStart => exact ⟨0, by omega, rfl, HMr.out⟩
      case round =>
        obtain ⟨g, hg, rfl, hm⟩ := hrel
        by_cases hlg : g < 6
        · have HM := Lib.hid hm
          clear hm
          go_wp2_with fail
          generalize decide ((g : Int) < 6) = bg
          go_loopw [9] (fun i wr => ∃ j : Nat, j ≤ 16 ∧ i = .int .i64 j ∧ Mod (fun _ => False) w wr) (fun i _ => 16 - (intOf i).toNat)
          case atStart => exact ⟨0, by omega, rfl, HM.out⟩
          case round =>
            obtain ⟨j, hj, rfl, hm⟩ := hrel
            by_cases hlj : j < 16
            · have HMj := Lib.hid hm
              clear hm
              obtain ⟨m, hm5⟩ : ∃ m : Nat, (j : Int).tmod 5 = m := ⟨((j : Int).tmod 5).toNat, by have := Int.tmod_nonneg 5 (show (0 : Int) ≤ j by omega); omega⟩
              have hmlt : m ≤ 4 := by have := Int.tmod_lt_of_pos (j : Int) (show (0 : Int) < 5 by omega); omega
              go_upto_region 20 with fail
              generalize decide (0 < bits BinOp.and IntKind.i64 (j : Int) 1) = b1
              generalize decide (0 < bits BinOp.and IntKind.i64 (j : Int) 2) = b2
              generalize decide (0 < bits BinOp.and IntKind.i64 (j : Int) 4) = b3
              generalize decide (0 < bits BinOp.and IntKind.i64 (j : Int) 8) = b4
              obtain ⟨W2, hW2⟩ : ∃ W2, (wr.alloc (.cells #[.bool b1, .bool b2, .bool b3, .bool b4] 4)).alloc (.cells #[.int .i64 0, .int .i64 1, .int .i64 1, .slice none 0 0, .int .i64 2, .int .i64 0, .int .i64 0, .slice none 0 0, .int .i64 3, .int .i64 0, .int .i64 g, .slice none 0 0, .int .i64 0, .int .i64 1, .int .i64 2, .slice none 0 0, .int .i64 0, .int .i64 2, .int .i64 3, .slice none 0 0, .int .i64 0, .int .i64 1, .int .i64 4, .slice none 0 0, .int .i64 2, .int .i64 0, .int .i64 0, .slice none 0 0, .int .i64 1, .int .i64 1, .int .i64 0, .slice none 0 0, .int .i64 4, .int .i64 0, .int .i64 0, .slice none 0 0, .int .i64 5, .int .i64 0, .int .i64 0, .slice (some ⟨wr.heap.size, 0, none⟩) m 4, .int .i64 1, .int .i64 1, .int .i64 0, .slice none 0 0, .int .i64 1, .int .i64 2, .int .i64 0, .slice none 0 0, .int .i64 6, .int .i64 2, .int .i64 0, .slice none 0 0, .int .i64 0, .int .i64 2, .int .i64 5, .slice none 0 0, .int .i64 1, .int .i64 2, .int .i64 0, .slice none 0 0] 36) = W2 := ⟨_, rfl⟩
              rw [hW2]
              have hbit : W2.heap[wr.heap.size]? = some (.cells ([b1, b2, b3, b4].map Value.bool).toArray 4 (0, 0)) := by rw [← hW2]; exact allocB (newB wr _) _
              have hown : W2.ownsRow 0 36 4 (.slice (some ⟨wr.heap.size + 1, 0, none⟩) 15 15) 15 (dflat (endL g wr.heap.size m [b1, b2, b3, b4])) := by rw [← hW2]; exact endL_own wr g m b1 b2 b3 b4
              have hm2 : Mod (fun _ => False) wr W2 := by rw [← hW2]; exact ((Mod.refl _ wr).alloc _).alloc _
              have hok : ∀ W : World, W.heap[wr.heap.size]? = some (.cells ([b1, b2, b3, b4].map Value.bool).toArray 4 (0, 0)) → ∀ y ∈ endL g wr.heap.size m [b1, b2, b3, b4], DOk W y := fun W hW => endL_ok (by omega) (by simpa using hmlt) (by simp) hW
              have hlb := ltB hbit
              have hwr : w.heap.size ≤ wr.heap.size := HMj.out.size
              have hlo : wr.heap.size + 1 < W2.heap.size := by rw [← hW2]; simp
              have hdd : Deeds W2 (.slice (some ⟨wr.heap.size + 1, 0, none⟩) 15 15) ((endL g wr.heap.size m [b1, b2, b3, b4]).map (·.1)) := deeds_of_own (l := endL g wr.heap.size m [b1, b2, b3, b4]) (by rw [endL_length]; exact hown) (hok W2 hbit)
              have HH := Lib.hid (And.intro hbit (And.intro hown (And.intro (HMj.out.tr hm2) (And.intro hok hdd))))
              clear hbit hown hm2 hok hdd hW2 HMj
              obtain ⟨i36, hi36, hz0, hz1, hz2⟩ := info_parts info36
              have hsz := HH.out.2.2.1.size
              go_wp2_with fail
              refine (devtells_any W2 3 2 _ _ HH.out.2.2.2.2).mono ?_
              rintro e w4 ⟨rfl, hm4⟩
              have H4 := Lib.hid hm4
              clear hm4
              go_wp2_with fail
              refine (devtells_any w4 3 1 _ _ (HH.out.2.2.2.2.mod H4.out)).mono ?_
              rintro e w5 ⟨rfl, hm5⟩
              have H5 := Lib.hid (H4.out.tr hm5)
              clear hm5
              have hown5 : (w5.alloc (.cells #[.int .i64 5, .int .i64 0, .int .i64 0, .slice (some ⟨wr.heap.size, 0, none⟩) 4 4] 36)).ownsRow 0 36 4 (.slice (some ⟨wr.heap.size + 1, 0, none⟩) 15 15) 15 (dflat (endL g wr.heap.size m [b1, b2, b3, b4])) := (own_same HH.out.2.1 (fun k hk => by cases hk; exact H5.out.block _ hlo (fun q => q))).alloc _
              have hnew5 : ∀ jj u, [Value.int .i64 5, .int .i64 0, .int .i64 0, .slice (some ⟨wr.heap.size, 0, none⟩) 4 4][jj]? = some u → (w5.alloc (.cells #[.int .i64 5, .int .i64 0, .int .i64 0, .slice (some ⟨wr.heap.size, 0, none⟩) 4 4] 36)).cell? ((⟨w5.heap.size, 0, none⟩ : Addr).add jj) = some u := fun jj u hjj => by
                rw [add0, Nat.zero_add, cellB (newB w5 _)]
                simpa using hjj
              have HO5 := Lib.hid (And.intro hown5 hnew5)
              clear hown5 hnew5
              go_wp2_with (first
                | (at_builtin; refine wpList_append_want _ (by rfl) _ _ 22 rfl 36 i36 _ 4 48 Try.underlying22 hi36 hz0 hz1 hz2 rfl (by decide) (.slice (some ⟨wr.heap.size + 1, 0, none⟩) 15 15) 15 (dflat (endL g wr.heap.size m [b1, b2, b3, b4])) rfl HO5.out.1 ⟨w5.heap.size, 0, none⟩ 1 1 [.int .i64 5, .int .i64 0, .int .i64 0, .slice (some ⟨wr.heap.size, 0, none⟩) 4 4] rfl rfl HO5.out.2 (by intro u hu; simp only [List.mem_cons, List.not_mem_nil, or_false] at hu; rcases hu with rfl | rfl | rfl | rfl <;> rfl) (by simp [maxLen]) (by omega) ?_; intro v6 w6 ho6 hg6; have H6 := Lib.hid (And.intro ho6 hg6); clear ho6 hg6))
              have hbit5 : (w5.alloc (.cells #[.int .i64 5, .int .i64 0, .int .i64 0, .slice (some ⟨wr.heap.size, 0, none⟩) 4 4] 36)).heap[wr.heap.size]? = some (.cells ([b1, b2, b3, b4].map Value.bool).toArray 4 (0, 0)) := allocB ((H5.out.block _ hlb (fun q => q)).trans HH.out.1) _
              have hbit6 : w6.heap[wr.heap.size]? = some (.cells ([b1, b2, b3, b4].map Value.bool).toArray 4 (0, 0)) := (H6.out.2.block _ (ltB hbit5) (fun e => by simp [Value.ownBlock] at e)).trans hbit5
              have hm6 : Mod (fun _ => False) w w6 := ((HH.out.2.2.1.tr H5.out).alloc _).grown H6.out.2 (fun k hk hl => by simp [Value.ownBlock] at hk; omega)
              have hd6 : Deeds w6 v6 ((endL g wr.heap.size m [b1, b2, b3, b4] ++ [((⟨5, 0, 0, [b1, b2, b3, b4].take 4⟩ : Deed), (Value.slice (some ⟨wr.heap.size, 0, none⟩) 4 4 : Value))]).map (fun y : Deed × Value => y.1)) := by
                refine deeds_of_own (by rw [List.length_append, endL_length, dflat_last]; exact H6.out.1) (fun y hy => ?_)
                rcases List.mem_append.1 hy with hy | hy
                · exact HH.out.2.2.2.1 w6 hbit6 y hy
                · simp only [List.mem_cons, List.not_mem_nil, or_false] at hy
                  subst hy
                  exact dok_bits _ _ _ _ (by omega) (by simp) (by simp) hbit6 _
              have H7 := Lib.hid (And.intro hm6 hd6)
              clear hbit5 hbit6 hm6 hd6
              refine (devtells_any w6 3 3 _ _ H7.out.2).mono ?_
              rintro e w7 ⟨rfl, hm7⟩
              have H8 := Lib.hid (H7.out.1.tr hm7)
              clear hm7
              go_wp2_with fail
              go_roundw
              case rel => exact ⟨j + 1, by omega, by simp, H8.out⟩
              case measure => simp [intOf]; omega
            · have HMr := Lib.hid hm
              clear hm
              go_wp2_with fail
              go_roundw
              case rel => exact ⟨g + 1, by omega, by simp, HMr.out⟩
              case measure => simp [intOf]; omega
        · have HMr := Lib.hid hm
          clear hm
          go_wp2_with fail
          refine (HA.out wr).mono ?_
          rintro e w3 ⟨rfl, hm3⟩
          have HM := Lib.hid (HMr.out.tr hm3)
          clear hm3
          go_wp2_with fail
          go_ret
          exact ⟨rfl, HM.out⟩
end Go.Proofs.Ytaaoabfmelpcpaa
