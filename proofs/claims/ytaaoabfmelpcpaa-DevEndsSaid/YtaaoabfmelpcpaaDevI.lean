/- Flush, and what all methods share. -/
import Derived.Test.YtaaoabfmelpcpaaDevH
namespace Go.Proofs.Ytaaoabfmelpcpaa
open Go.RowKit Go.Mo

def turnD (d : Dv) : Dv := if d.armed = 0 then { d with turns := wrap64 (d.turns + 1) } else { d with turns := wrap64 (d.turns + 1), armed := d.armed - 1, down := decide (d.armed = 1) }

theorem modB (w : World) (B : Nat) : Mod (fun j => j = B) w w := Mod.refl _ _
theorem setMB {a w : World} {B : Nat} (h : Mod (fun j => j = B) a w) (i : Nat) (v : Value) : Mod (fun j => j = B) a (w.setCell ⟨B, i, none⟩ v) := h.setCell (fun _ => rfl) v

section
variable {w : World} {B : Nat} {S : Nat → Prop} {d : Dv} {K M : Nat} {W : Value} {ke we : List (Int × Value)}

/-- The ten cells alone are others. -/
theorem DevAt.reset (h : DevAt w B S d K M W ke we) {w' : World} (d' : Dv) (hk : d'.kept = d.kept) (hw : d'.waiting = d.waiting) (ha : 0 ≤ d'.armed ∧ d'.armed ≤ 9223372036854775807)
    (hB' : w'.heap[B]? = some (.cells (dcells K M W d') 49 (0, 0))) (hm : Mod (fun j => j = B) w w') : DevAt w' B S d' K M W ke we ∧ Mod S w w' := by
  have hms : Mod S w w' := hm.weaken (fun j e _ => by rw [e]; exact h.sB)
  have eBK : K ≠ B := fun e => by have h1 := h.hB; rw [← e, h.hK] at h1; cases h1
  have eBM : M ≠ B := fun e => by have h1 := h.hB; rw [← e, h.hM] at h1; cases h1
  have hbs : BSame S w w' := fun j cs hj hc => by
    rw [hm.block j (h.lt j hj) (fun e => by rw [e, h.hB] at hc; cases hc)]; exact hc
  refine ⟨⟨hB', ?_, ?_, ?_, ?_, ?_, h.sB, h.sK, h.sM, h.sW, h.ne, fun j hj => Nat.lt_of_lt_of_le (h.lt j hj) hm.size, by rw [hw]; exact h.bound, ha⟩, hms⟩
  · rw [hm.block K (h.lt _ h.sK) eBK]; exact h.hK
  · rw [hm.block M (h.lt _ h.sM) eBM, hw]; exact h.hM
  · rw [hk]; exact h.kept.bsame hbs hm.size (fun j hj _ => hj)
  · refine own_same h.row (fun j hj => hm.block j (h.lt j (h.sW j hj)) (fun e => ?_))
    have := own_ne h.row h.hB (by decide)
    rw [e] at hj; exact this hj
  · rw [hw]; exact h.wait.bsame hbs hm.size (fun j hj _ => hj)

theorem turn_calls (h : DevAt w B S d K M W ke we) (hd : d.down = false) : Calls Try.prog 37 #[.pointer (some ⟨B, 0, none⟩)] w fun e w' =>
    e = (if d.armed = 1 then pan 8 else ret0) ∧ DevAt w' B S (turnD d) K M W ke we ∧ Mod S w w' := by
  have c9 := h.c9
  rw [hd] at c9
  by_cases h0 : d.armed = 0
  · have c7 := h.c7
    rw [h0] at c7
    refine (turn_idle B d.turns w h.c8 c7 (h.fz 8)).mono ?_
    rintro e w' ⟨rfl, rfl⟩
    refine ⟨by rw [if_neg (by omega)], h.reset _ (by simp [turnD, h0]) (by simp [turnD, h0]) (by simp [turnD, h0]) ?_ (setMB (modB w B) _ _)⟩
    rw [setB h.hB]; simp [turnD, h0, dcells]
  · by_cases h1 : d.armed = 1
    · have c7 := h.c7
      rw [h1] at c7
      refine (turn_crash B d.turns w h.c8 c7 c9 (h.fz 7) (h.fz 8) (h.fz 9)).mono ?_
      rintro e w' ⟨rfl, rfl⟩
      refine ⟨by rw [if_pos h1], h.reset _ (by simp [turnD, h1]) (by simp [turnD, h1]) (by simp [turnD, h1]) ?_ (((setMB (modB w B) _ _).setCell (fun _ => rfl) _).setCell (fun _ => rfl) _)⟩
      rw [setB (setB (setB h.hB 8 _) 7 _) 9 _]; simp [turnD, h1, dcells]
    · have ha := h.arm
      refine (turn_on B d.turns d.armed w h.c8 h.c7 c9 (h.fz 7) (h.fz 8) (h.fz 9) (by omega) ha.2).mono ?_
      rintro e w' ⟨rfl, rfl⟩
      refine ⟨by rw [if_neg h1], h.reset _ (by simp [turnD, h0]) (by simp [turnD, h0]) (by simp [turnD, h0]; omega) ?_ (((setMB (modB w B) _ _).setCell (fun _ => rfl) _).setCell (fun _ => rfl) _)⟩
      rw [setB (setB (setB h.hB 8 _) 7 _) 9 _]; simp [turnD, h0, h1, dcells]
end

/-- Behind a method: the device d', of blocks of S and new ones. -/
def Op (w w' : World) (B : Nat) (S : Nat → Prop) (d' : Dv) : Prop := ∃ S', Dev w' B S' d' ∧ Mod S w w' ∧ ∀ j, S' j → S j ∨ w.heap.size ≤ j

theorem Op.keep {w w' : World} {B : Nat} {S : Nat → Prop} {d : Dv} (h : Dev w' B S d) (hm : Mod S w w') : Op w w' B S d := ⟨S, h, hm, fun _ hj => .inl hj⟩
theorem Op.before {w0 w w' : World} {B : Nat} {S : Nat → Prop} {d' : Dv} (h : Op w w' B S d') (hm : Mod S w0 w) : Op w0 w' B S d' := by
  obtain ⟨S', h1, h2, h3⟩ := h
  exact ⟨S', h1, hm.trans h2 (fun _ q _ => q), fun j hj => (h3 j hj).imp id (fun q => Nat.le_trans hm.size q)⟩
/-- A cell of a block that lay between is written. -/
theorem Op.set {w0 w w' : World} {B : Nat} {S : Nat → Prop} {d' : Dv} (h : Op w w' B S d') (hm : Mod S w0 w) (hS : ∀ j, S j → j < w0.heap.size) (b i : Nat) (hb : w0.heap.size ≤ b) (hb2 : b < w.heap.size) (v : Value) : Op w0 (w'.setCell ⟨b, i, none⟩ v) B S d' := by
  obtain ⟨S', h1, h2, h3⟩ := h
  refine ⟨S', h1.same (fun k hk _ => Below.heap_setCell w' ⟨b, i, none⟩ v k (fun e => ?_)) (by simp), (hm.trans h2 (fun _ q _ => q)).setCell (fun q => ?_) v, fun j hj => (h3 j hj).imp id (fun q => Nat.le_trans hm.size q)⟩
  · simp only at e
    subst e
    rcases h3 _ hk with q | q
    · have := hS _ q; omega
    · omega
  · simp only at q; omega

theorem cell_new (w : World) (v : Value) (T : TypeId) : (w.alloc (.cells #[v] T)).cell? ⟨w.heap.size, 0, none⟩ = some v := by rw [cellB (newB w _)]; rfl

theorem true_calls (i : Int) (w : World) : Calls Try.prog 39 (#[.int .i64 i] ++ #[]) w fun e w' => e = .returned (.bool true) ∧ w = w' := by
  show Calls Try.prog 39 #[.int .i64 i] w _
  go_enter Try.func39, Try.ntmps39
  go_wp2
  go_ret
  exact ⟨rfl, rfl⟩

def flushD (d : Dv) : Dv := if d.down then d else if d.armed = 1 then turnD d else { turnD d with kept := keepTo (fun _ => true) (turnD d) d.waiting.length, waiting := [] }
def flushE (d : Dv) : Int := if d.down then 8 else if d.armed = 1 then 8 else 0

section
variable {w : World} {B : Nat} {S : Nat → Prop} {d : Dv}

set_option maxHeartbeats 1000000 in
theorem flush1_calls (h : Dev w B S d) (b : Nat) (hb : w.heap[b]? = some (.cells #[.pointer (some ⟨B, 0, none⟩)] 24 (0, 0))) (hbS : ¬ S b) : Calls Try.prog 35 #[.pointer (some ⟨b, 0, none⟩)] w fun e w' =>
    e = (if flushE d = 0 then ret0 else pan (flushE d)) ∧ Op w w' B S (flushD d) := by
  obtain ⟨K, M, W, ke, we, h⟩ := h
  have e1 : w.cell? ⟨b, 0, none⟩ = some (.pointer (some ⟨B, 0, none⟩)) := by rw [cellB hb]; rfl
  by_cases hd : d.down = true
  · have c0 := h.c0
    have c9 := h.c9
    rw [hd] at c9
    have hO := Lib.hid (Op.keep ⟨K, M, W, ke, we, h⟩ (Mod.refl S w))
    rw [show flushE d = 8 by simp [flushE, hd], show flushD d = d by simp [flushD, hd]]
    clear h
    go_enter Try.func35, Try.ntmps35
    go_wp2_with fail
    refine (up_down B K w c0 c9).mono ?_
    rintro e w' ⟨rfl, rfl⟩
    exact ⟨rfl, rfl, hO.out⟩
  · have hd' : d.down = false := by simpa using hd
    have c0 := h.c0
    have c9 := h.c9
    rw [hd'] at c9
    have HT := Lib.hid (turn_calls h hd')
    by_cases ha : d.armed = 1
    · rw [show flushE d = 8 by simp [flushE, ha], show flushD d = turnD d by simp [flushD, hd', ha]]
      rw [if_pos ha] at HT
      clear h hd hd'
      go_enter Try.func35, Try.ntmps35
      go_wp2_with fail
      refine (up_ok B K w c0 c9).mono ?_
      rintro e w' ⟨rfl, rfl⟩
      go_wp2_with fail
      refine HT.out.mono ?_
      rintro e w' ⟨rfl, h1, h2⟩
      exact ⟨rfl, rfl, Op.keep ⟨_, _, _, _, _, h1⟩ h2⟩
    · rw [show flushE d = 0 by simp [flushE, hd', ha], show flushD d = { turnD d with kept := keepTo (fun _ => true) (turnD d) d.waiting.length, waiting := [] } by simp [flushD, hd', ha]]
      rw [if_neg ha] at HT
      have hbl := ltB hb
      have HB := Lib.hid hb
      have hwt : (turnD d).waiting = d.waiting := by unfold turnD; split <;> rfl
      clear h hd hd' hb
      go_enter Try.func35, Try.ntmps35
      go_wp2_with fail
      refine (up_ok B K w c0 c9).mono ?_
      rintro e w' ⟨rfl, rfl⟩
      go_wp2_with fail
      refine HT.out.mono ?_
      rintro e w1 ⟨rfl, h1, h2⟩
      have e1' : w1.cell? ⟨b, 0, none⟩ = some (.pointer (some ⟨B, 0, none⟩)) := (h2.cell (p := ⟨b, 0, none⟩) hbl hbS).trans e1
      have HK := Lib.hid (keep_calls h1 39 #[] (fun _ => true) (fun i w => by simp [go_sem]) (fun i w1 _ _ => true_calls i w1))
      have H2 := Lib.hid h2
      have HW := Lib.hid hwt
      clear h1 h2 hwt
      go_wp2_with fail
      refine HK.out.mono ?_
      rintro e w2 ⟨rfl, M', ke', h3, h4, h5⟩
      go_wp2
      go_returns
      rw [HW.out] at h3
      have h4' := H2.out.trans h4 (fun _ q _ => q)
      have := H2.out.size
      exact ⟨rfl, _, ⟨_, _, _, _, _, h3⟩, h4', fun j hj => hj.imp id (fun e => by omega)⟩
end
end Go.Proofs.Ytaaoabfmelpcpaa
