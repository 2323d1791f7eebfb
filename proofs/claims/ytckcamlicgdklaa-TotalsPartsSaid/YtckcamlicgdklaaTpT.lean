/- Equality of two totals. -/
import Derived.Test.YtckcamlicgdklaaTpS
namespace Go.Proofs.Ytckcamlicgdklaa
open Go.RowKit Go.Mo Go.Sort

theorem Try.c88 : Try.prog.cellsOf 88 = 35 := by kernel_rfl
theorem Try.c57 : Try.prog.cellsOf 57 = 2 := by kernel_rfl
theorem Try.k88 : Try.prog.keyTypeAt 4 88 = true := by kernel_rfl
def totLits (x : Nm × Int) : List Lit := x.1.policy.map lit8 ++ [.string x.1.name, .int .i64 (hiW x.2), .int .u64 (loW x.2)]
theorem keyLits_int {P : Program} {D : Nat} {t : TypeId} {k : IntKind} {n : Int} (hu : P.underlying t = some (.int k)) (hw : (Lit.int k n).wf = true) : P.keyLits (D + 1) t [.int k n] = some [.int k n] := by
  unfold Program.keyLits
  simp only [hu, hw, and_self, if_true]
theorem wf_hi (z : Int) : (Lit.int .i64 (hiW z)).wf = true := wrap64_wf _
theorem wf_lo (z : Int) : (Lit.int .u64 (loW z)).wf = true := by
  simp only [Lit.wf, IntKind.min, IntKind.max, IntKind.signed, IntKind.bits, loW, Bool.and_eq_true]
  simp
  omega
theorem keyLits_wide (D : Nat) (z : Int) : Try.prog.keyLits (D + 2) 57 [.int .i64 (hiW z), .int .u64 (loW z)] = some [.int .i64 (hiW z), .int .u64 (loW z)] := by
  rw [keyLits_struct Try.underlying57 (by rw [Try.c57]; rfl) (by simp)]
  have c2 : Try.prog.cellsOf 2 = 1 := by kernel_rfl
  have c30 : Try.prog.cellsOf 30 = 1 := by kernel_rfl
  simp [c2, c30, keyLits_int Try.underlying2 (wf_hi z), keyLits_int Try.underlying30 (wf_lo z)]
theorem keyLits_tot (D : Nat) (x : Nm × Int) : Try.prog.keyLits (D + 3) 88 (totCells x) = some (totLits x) := by
  obtain ⟨a, z⟩ := x
  have hl := a.len
  have hs := a.size
  have hm : (a.policy.map by8).length = 32 := by rw [List.length_map, hl]
  rw [keyLits_struct Try.underlying88 (by rw [Try.c88]; simp [totCells, nmCells, hl]) (by simp)]
  have h1 : ((totCells (a, z)).drop 0).take (Try.prog.cellsOf 27) = a.policy.map by8 := by
    rw [Try.c27, List.drop_zero, totCells, nmCells, List.append_assoc, List.take_append_of_le_length (by simp [hl]), List.take_of_length_le (by simp [hl])]
  have h2 : ((totCells (a, z)).drop 32).take (Try.prog.cellsOf 9) = [.string ⟨a.name.toArray⟩] := by
    rw [Try.c9, totCells, nmCells, List.append_assoc, List.drop_append_of_le_length (by simp [hl]), List.drop_of_length_le (by simp [hl])]; rfl
  have h3 : ((totCells (a, z)).drop 33).take (Try.prog.cellsOf 57) = [.int .i64 (hiW z), .int .u64 (loW z)] := by
    rw [Try.c57, totCells, List.drop_append_of_le_length (by simp [nmCells, hl]), List.drop_of_length_le (by simp [nmCells, hl])]; rfl
  simp only [List.mapM_cons, List.mapM_nil, h1, h2, h3, keyLits_policy D a.policy hl, keyLits_wide, keyLits_string (s := ⟨a.name.toArray⟩) Try.underlying9 (by simpa [ByteArray.size] using hs)]
  simp [totLits]
theorem tot_formed (x : Nm × Int) : (Value.agg (totCells x).toArray).formed Try.prog 88 = true := by
  have := x.1.len
  simp [Value.formed, Try.underlying88, Try.c88, totCells, nmCells, this]
/-- A total as it is written. -/
def tN (x : Nm × Int) : Nm × Int × Int := (x.1, hiW x.2, loW x.2)
theorem tot_lits (x y : Nm × Int) : totLits x = totLits y ↔ tN x = tN y := by
  unfold totLits tN
  constructor
  · intro h
    have hl : (x.1.policy.map lit8).length = (y.1.policy.map lit8).length := by rw [List.length_map, List.length_map, x.1.len, y.1.len]
    obtain ⟨h1, h2⟩ := List.append_inj h hl
    simp only [List.cons.injEq, Lit.string.injEq, Lit.int.injEq, true_and, and_true] at h2
    have hn : x.1 = y.1 := (nm_lits x.1 y.1).1 (by rw [h1, h2.1])
    rw [hn, h2.2.1, h2.2.2]
  · intro h
    simp only [Prod.mk.injEq] at h
    rw [h.1, h.2.1, h.2.2]
theorem tot_eq (x y : Nm × Int) (w : World) : (Op.equal 88 (.agg (totCells x).toArray) (.agg (totCells y).toArray)).run Try.prog w = .ok (decide (tN x = tN y)) w := by
  obtain ⟨r, hr, hiff⟩ := run_equalIn_deep (P := Try.prog) 9996 4 88 Try.k88 w 3 3 _ _ _ _ (tot_formed x) (tot_formed y) (by simpa [Value.cells] using keyLits_tot 0 x) (by simpa [Value.cells] using keyLits_tot 0 y)
  rw [tot_lits] at hiff
  have : r = decide (tN x = tN y) := by
    cases r with
    | true => simp [hiff.1 rfl]
    | false =>
      have : ¬ tN x = tN y := fun e => by have := hiff.2 e; cases this
      simp [this]
  rw [← this]
  exact hr
theorem exec_neq88 (act : Act) (o : Oper) {w : World} {a b : Operand} {R : TypeId} (ho : o.op = .binOp .neq 88 a b R) (x y : Nm × Int) (hx : act.eval a = .agg (totCells x).toArray) (hy : act.eval b = .agg (totCells y).toArray) : (execOp act.eval o).run Try.prog w = .ok (.value (.bool (!decide (tN x = tN y)))) w := by
  have h := tot_eq x y w
  unfold execOp
  simp only [ho, hx, hy, Sem.run_bind, Sem.run_pure]
  have hgt : Try.prog.eqGuardType Try.prog.depth 88 = false := by kernel_rfl
  have hg : (eqGuard .neq 88 a b (.agg (totCells x).toArray) (.agg (totCells y).toArray)).run Try.prog w = .ok () w := by
    unfold eqGuard
    simp [hgt]
  have hb : (binOp .neq 88 (.agg (totCells x).toArray) (.agg (totCells y).toArray)).run Try.prog w = .ok (.bool (!decide (tN x = tN y))) w := by
    unfold binOp
    simp [h]
  rw [hg]
  simp only [Result.andThen_ok, hb]
end Go.Proofs.Ytckcamlicgdklaa
