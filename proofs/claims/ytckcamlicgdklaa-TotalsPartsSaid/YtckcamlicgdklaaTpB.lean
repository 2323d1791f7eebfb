/- The names of assets as keys of a map. -/
import Derived.Test.YtckcamlicgdklaaTpA
import Derived.DeepKeys3
namespace Go.Proofs.Ytckcamlicgdklaa
open Go.RowKit Go.Mo

abbrev Bs := List UInt8
def by8 (x : UInt8) : Value := .int .u8 (x.toNat : Int)
def lit8 (x : UInt8) : Lit := .int .u8 (x.toNat : Int)

/-- An asset's name: a policy of 32 bytes, a string. -/
structure Nm where
  policy : Bs
  name : Bs
  len : policy.length = 32
  size : name.length ≤ maxLen
deriving DecidableEq

def nmCells (a : Nm) : List Value := a.policy.map by8 ++ [.string ⟨a.name.toArray⟩]
def nmV (a : Nm) : Value := .agg (nmCells a).toArray

theorem Try.c27 : Try.prog.cellsOf 27 = 32 := by kernel_rfl
theorem Try.c93 : Try.prog.cellsOf 93 = 33 := by kernel_rfl
theorem Try.c9 : Try.prog.cellsOf 9 = 1 := by kernel_rfl
theorem Try.c5 : Try.prog.cellsOf 5 = 1 := by kernel_rfl
theorem Try.k93 : Try.prog.keyTypeAt 3 93 = true := by kernel_rfl

theorem range_mapM_lits (D : Nat) : ∀ (p q : Bs), (List.range' q.length p.length).mapM (fun i => Try.prog.keyLits (D + 1) 5 ((((q ++ p).map by8).drop i).take 1)) = some (p.map fun x => [lit8 x])
  | [], q => by simp
  | x :: p, q => by
    have ih := range_mapM_lits D p (q ++ [x])
    rw [List.length_cons, List.range'_succ, List.mapM_cons]
    have e : (((q ++ x :: p).map by8).drop q.length).take 1 = [by8 x] := by simp
    have hw : (Lit.int .u8 (x.toNat : Int)).wf = true := by
      have := x.toNat_lt
      simp [Lit.wf, IntKind.min, IntKind.max, IntKind.signed, IntKind.bits]
      omega
    have e2 : Try.prog.keyLits (D + 1) 5 [by8 x] = some [lit8 x] := by
      simp only [Program.keyLits, Try.underlying5, by8, lit8, hw, and_self, if_true]
    rw [e, e2]
    simp only [List.length_append, List.length_cons, List.length_nil, List.append_assoc, List.cons_append, List.nil_append, Nat.zero_add, List.map_append, List.map_cons] at ih
    simp [ih]

theorem keyLits_array {P : Program} {D : Nat} {t e : TypeId} {n : Nat} {cs : List Value} (hu : P.underlying t = some (.array n e)) (hc : cs.length = P.cellsOf t) :
    P.keyLits (D + 1) t cs = ((List.range n).mapM fun i => P.keyLits D e ((cs.drop (i * P.cellsOf e)).take (P.cellsOf e))).map List.flatten := by
  conv => lhs; unfold Program.keyLits
  simp only [hu, hc, if_true]
theorem keyLits_struct {P : Program} {D : Nat} {t : TypeId} {fs : Array Field} {cs : List Value} (hu : P.underlying t = some (.struct fs)) (hc : cs.length = P.cellsOf t) (hn : fs.all (·.name != "_") = true) :
    P.keyLits (D + 1) t cs = (fs.toList.mapM fun f => P.keyLits D f.type ((cs.drop f.offset).take (P.cellsOf f.type))).map List.flatten := by
  conv => lhs; unfold Program.keyLits
  simp only [hu, hc, hn, and_self, if_true]
theorem keyLits_string {P : Program} {D : Nat} {t : TypeId} {s : ByteArray} (hu : P.underlying t = some .string) (hs : s.size ≤ maxLen) : P.keyLits (D + 1) t [.string s] = some [.string s.data.toList] := by
  unfold Program.keyLits
  simp only [hu, hs, if_true]

theorem flatten_map_single (p : Bs) : (p.map fun x => [lit8 x]).flatten = p.map lit8 := by
  induction p with
  | nil => rfl
  | cons x p ih => simp [ih]

theorem keyLits_policy (D : Nat) (p : Bs) (hp : p.length = 32) : Try.prog.keyLits (D + 2) 27 (p.map by8) = some (p.map lit8) := by
  have h0 := range_mapM_lits D p []
  rw [keyLits_array Try.underlying27 (by rw [List.length_map, hp, Try.c27])]
  simp only [List.nil_append, List.length_nil, hp, ← List.range_eq_range'] at h0
  simp only [Try.c5, Nat.mul_one]
  rw [h0, Option.map_some, flatten_map_single]

theorem keyLits_nm (D : Nat) (a : Nm) : Try.prog.keyLits (D + 3) 93 (nmCells a) = some (a.policy.map lit8 ++ [.string a.name]) := by
  have hl := a.len
  have hs := a.size
  have hm : (a.policy.map by8).length = 32 := by rw [List.length_map, hl]
  rw [keyLits_struct Try.underlying93 (by rw [Try.c93]; simp [nmCells, hl]) (by simp)]
  have h1 : ((nmCells a).drop 0).take (Try.prog.cellsOf 27) = a.policy.map by8 := by
    rw [Try.c27, List.drop_zero, nmCells, List.take_append_of_le_length (by omega), List.take_of_length_le (by omega)]
  have h2 : ((nmCells a).drop 32).take (Try.prog.cellsOf 9) = [.string ⟨a.name.toArray⟩] := by
    rw [Try.c9, nmCells, List.drop_append_of_le_length (by omega), List.drop_of_length_le (by omega)]; rfl
  simp only [List.mapM_cons, List.mapM_nil, h1, h2, keyLits_policy D a.policy hl, keyLits_string (s := ⟨a.name.toArray⟩) Try.underlying9 (by simpa [ByteArray.size] using hs)]
  simp

theorem nm_formed (a : Nm) : (nmV a).formed Try.prog 93 = true := by
  have := a.len
  simp [Value.formed, nmV, Try.underlying93, Try.c93, nmCells, this]
theorem lit8_inj : ∀ (p q : Bs), p.map lit8 = q.map lit8 → p = q
  | [], [], _ => rfl
  | [], _ :: _, h => by simp at h
  | _ :: _, [], h => by simp at h
  | x :: p, y :: q, h => by
    simp only [List.map_cons, List.cons.injEq] at h
    have hx : x = y := by
      have := h.1
      simp only [lit8, Lit.int.injEq, true_and] at this
      exact UInt8.toNat_inj.1 (by omega)
    rw [hx, lit8_inj p q h.2]
theorem nm_lits (a b : Nm) : (a.policy.map lit8 ++ [Lit.string a.name] = b.policy.map lit8 ++ [Lit.string b.name]) ↔ a = b := by
  constructor
  · intro h
    have hl : (a.policy.map lit8).length = (b.policy.map lit8).length := by rw [List.length_map, List.length_map, a.len, b.len]
    obtain ⟨h1, h2⟩ := List.append_inj h hl
    have hp := lit8_inj _ _ h1
    have hn : a.name = b.name := by simpa using h2
    cases a; cases b
    simp only at hp hn
    subst hp; subst hn
    rfl
  · rintro rfl; rfl

theorem nm_eq (a b : Nm) (w : World) : (Op.equal 93 (nmV a) (nmV b)).run Try.prog w = .ok (decide (a = b)) w := by
  obtain ⟨r, hr, hiff⟩ := run_equalIn_deep (P := Try.prog) 9997 3 93 Try.k93 w 3 3 (nmV a) (nmV b) _ _ (nm_formed a) (nm_formed b) (by simpa [nmV, Value.cells] using keyLits_nm 0 a) (by simpa [nmV, Value.cells] using keyLits_nm 0 b)
  rw [nm_lits] at hiff
  have : r = decide (a = b) := by
    cases r with
    | true => simp [hiff.1 rfl]
    | false =>
      have : ¬ a = b := fun e => by have := hiff.2 e; cases this
      simp [this]
  rw [← this]
  exact hr
theorem nm_check (a : Nm) (e : Bool) (w : World) : (Instr.checkKey e 10000 93 (nmV a)).run Try.prog w = .ok () w :=
  run_checkKey_deep (P := Try.prog) e 9997 3 93 Try.k93 w 3 (nmV a) _ (nm_formed a) (by simpa [nmV, Value.cells] using keyLits_nm 0 a)
end Go.Proofs.Ytckcamlicgdklaa
