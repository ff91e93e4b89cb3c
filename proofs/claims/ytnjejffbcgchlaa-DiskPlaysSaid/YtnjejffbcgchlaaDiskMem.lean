/- How parts of a disk are made and stored in memory, each operation by a law (package disk). -/
import Derived.Test.YtnjejffbcgchlaaDiskStore
set_option linter.unusedSimpArgs false
set_option linter.unusedVariables false
namespace Go.Proofs.Ytnjejffbcgchlaa
open Go.RowKit
namespace Di
theorem run_zero_of {P : Program} {e : TypeId} {i : TypeInfo} {z : Value} (hi : P.info? e = some i) (hz : i.zero = some z) (w : World) : (zeroValue e).run P w = .ok z w := by simp [zeroValue, typeInfo, hi, hz]
theorem run_size_of {P : Program} {e : TypeId} {n : Nat} (hi : (P.info? e).map (·.size) = some n) (w : World) : (sizeOf e).run P w = .ok n w := by
  cases hq : P.info? e with
  | none => rw [hq] at hi; cases hi
  | some i =>
    rw [hq] at hi
    injection hi with hi
    simp [sizeOf, typeInfo, hq, hi]
theorem fill_one (place : Nat → Option (Nat × Nat)) (cells : Array Value) (i off size : Nat) (v : Value) (vs : List Value) (hv : v.cells = vs.toArray) (rest : List (Nat × Value)) (hp : place i = some (off, size)) (h1 : vs.length = size) (h2 : off + size ≤ cells.size) :
    Instr.fill place cells ((i, v) :: rest) = Instr.fill place (midSets cells.toList off vs).toArray rest := by
  rw [Instr.fill, hp]
  simp only [hv]
  rw [if_neg (by simp [h1]; omega)]
  congr 1
  apply Array.ext'
  rw [fill_part]
theorem fill_two (place : Nat → Option (Nat × Nat)) (cells : List Value) (o1 n1 o2 n2 : Nat) (v1 v2 : Value) (vs1 vs2 : List Value) (hv1 : v1.cells = vs1.toArray) (hv2 : v2.cells = vs2.toArray) (hp1 : place 0 = some (o1, n1)) (hp2 : place 1 = some (o2, n2)) (h1 : vs1.length = n1) (h2 : vs2.length = n2) (hb1 : o1 + n1 ≤ cells.length) (hb2 : o2 + n2 ≤ cells.length) :
    Instr.fill place cells.toArray [(0, v1), (1, v2)] = some (midSets (midSets cells o1 vs1) o2 vs2).toArray := by
  rw [fill_one place _ 0 o1 n1 v1 vs1 hv1 _ hp1 h1 (by simpa using hb1), fill_one place _ 1 o2 n2 v2 vs2 hv2 _ hp2 h2 (by simpa [midSets_len] using hb2)]
  rfl
theorem pl_setMeant (p : Pl) (s : Sec) : midSets (plC p) 64 (secC s) = plC { p with meant := s } := by
  unfold plC
  rw [midSets_drop _ (secC p.rest) _ 64 (secC_len _), midSets_whole _ _ _ (by rw [secC_len, secC_len])]
theorem exec_build_pl {op : Oper} {a : Act} {w : World} (x y : Operand) (ho : op.op = .build 82 #[(0, x), (1, y)]) (r m : Sec) (hx : a.eval x = .agg (secC r).toArray) (hy : a.eval y = .agg (secC m).toArray) :
    (execOp a.eval op).run Try.prog w = .ok (.value (.agg (plC ⟨r, m, false⟩).toArray)) w := by
  obtain ⟨i0, hi, hz0, hz1, hz2⟩ := info_parts info_place
  unfold execOp
  simp only [ho, List.map_toArray, List.map_cons, List.map_nil, hx, hy, Instr.build, Sem.run_bind, run_zero_of hi hz0, run_underlying Try.underlying82, Result.andThen_ok]
  simp
  rw [show (Value.agg (plC pl0).toArray).cells = (plC pl0).toArray from rfl, fill_two _ _ 0 64 64 64 _ _ (secC r) (secC m) rfl rfl rfl rfl (secC_len _) (secC_len _) (by rw [plC_len]; omega) (by rw [plC_len]; omega), pl_setRest, pl_setMeant]
  rfl
def wr0 : Wr := ⟨.all 0, 0⟩
theorem exec_build_wr {op : Oper} {a : Act} {w : World} (x y : Operand) (ho : op.op = .build 76 #[(0, x), (1, y)]) (r : Sec) (s : Int) (n : Nat) (hn : s = n) (hx : a.eval x = .agg (secC r).toArray) (hy : a.eval y = .int .i64 s) :
    (execOp a.eval op).run Try.prog w = .ok (.value (.agg (wrC ⟨r, n⟩).toArray)) w := by
  obtain ⟨i0, hi, hz0, hz1, hz2⟩ := info_parts info_write
  unfold execOp
  simp only [ho, List.map_toArray, List.map_cons, List.map_nil, hx, hy, Instr.build, Sem.run_bind, run_zero_of hi hz0, run_underlying Try.underlying76, Result.andThen_ok]
  simp
  have e1 : midSets (wrC ⟨.all 0, 0⟩) 0 (secC r) = wrC ⟨r, 0⟩ := by unfold wrC; rw [midSets_whole _ _ _ (by rw [secC_len, secC_len])]
  have e2 : midSets (wrC ⟨r, 0⟩) 64 [.int .i64 s] = wrC ⟨r, n⟩ := by unfold wrC; rw [midSets_drop _ (secC r) _ 64 (secC_len _), hn]; rfl
  rw [show (Value.agg (wrC ⟨.all 0, 0⟩).toArray).cells = (wrC ⟨.all 0, 0⟩).toArray from rfl, fill_two _ _ 0 64 64 1 _ _ (secC r) [.int .i64 s] rfl rfl rfl rfl (secC_len _) rfl (by rw [wrC_len]; omega) (by rw [wrC_len]; omega), e1, e2]
  rfl
theorem exec_list_wr {op : Oper} {a : Act} {w : World} (x : Operand) (ho : op.op = .buildSlice 52 1 #[(0, x)]) (r : Wr) (hx : a.eval x = .agg (wrC r).toArray) :
    (execOp a.eval op).run Try.prog w = .ok (.value (.slice (some ⟨w.heap.size, 0, none⟩) 1 1)) (w.alloc (.cells (wrC r).toArray 76)) := by
  obtain ⟨i0, hi, hz0, hz1, hz2⟩ := info_parts info_write
  unfold execOp
  simp only [ho, List.map_toArray, List.map_cons, List.map_nil, hx, Instr.buildSlice, Sem.run_bind, run_zero_of hi hz0, run_size_of info_wsize, run_underlying Try.underlying52, Result.andThen_ok, Sem.run_pure]
  simp
  rw [run_zero_of hi hz0]
  simp only [Result.andThen_ok]
  rw [fill_one _ _ 0 0 65 _ (wrC r) rfl [] rfl (wrC_len _) (by simp)]
  rw [show midSets (Array.map (fun x => (Value.agg (wrC { bytes := Sec.all 0, sector := 0 }).toArray).cells[x % (Value.agg (wrC { bytes := Sec.all 0, sector := 0 }).toArray).cells.size]!) (Array.range 65)).toList 0 (wrC r) = wrC r from by
    have := midSets_whole (wrC r) (Array.map (fun x => (Value.agg (wrC { bytes := Sec.all 0, sector := 0 }).toArray).cells[x % (Value.agg (wrC { bytes := Sec.all 0, sector := 0 }).toArray).cells.size]!) (Array.range 65)).toList [] (by simp [wrC_len])
    simpa using this]
  simp [Instr.fill, newRow, run_newObj_alloc]
theorem exec_alloc_pl {op : Oper} {a : Act} {w : World} (ho : op.op = .alloc 82) : (execOp a.eval op).run Try.prog w = .ok (.value (.pointer (some ⟨w.heap.size, 0, none⟩))) (w.alloc (.cells (plC pl0).toArray 82)) := by
  obtain ⟨i0, hi, hz0, hz1, hz2⟩ := info_parts info_place
  unfold execOp
  simp only [ho, Instr.alloc, Sem.run_bind, run_zero_of hi hz0, Result.andThen_ok, newVar, newRow, run_newObj_alloc, Sem.run_pure, Value.cells]
theorem exec_alloc_wr {op : Oper} {a : Act} {w : World} (ho : op.op = .alloc 76) : (execOp a.eval op).run Try.prog w = .ok (.value (.pointer (some ⟨w.heap.size, 0, none⟩))) (w.alloc (.cells (wrC wr0).toArray 76)) := by
  obtain ⟨i0, hi, hz0, hz1, hz2⟩ := info_parts info_write
  unfold execOp
  simp only [ho, Instr.alloc, Sem.run_bind, run_zero_of hi hz0, Result.andThen_ok, newVar, newRow, run_newObj_alloc, Sem.run_pure, Value.cells]
  rfl
theorem wpList_go {P : Program} {ops : Array Oper} {rest : List Oper} {o : Oper} {a : Act} {w : World} {Q : Exit → Act → World → Prop} (hgd : o.guard = none) (v : Value) (w' : World) (hx : (execOp a.eval o).run P w = .ok (.value v) w') (h : wpList P ops Q rest (a.put o.dst v) w') : wpList P ops Q (o :: rest) a w :=
  wpList_plain hgd fun K hK => by
    unfold Oper.wp
    rw [hx]
    exact hK _ _ h
end Di
end Go.Proofs.Ytnjejffbcgchlaa
