/- A world in which the listed package variables hold what their initialisers lay. -/
import Derived.Test.YtlkimpjcgcacdaaGreatDoorRows
import Derived.WalkKit
import Derived.ProofKit
import Derived.OpenShut
import Derived.Deep.DeepHandedRow
import Derived.Deep.DeepWitnessRowRef
import Derived.Deep.DeepLaidRun
import Derived.Lib.LaidCaseMet
import Derived.PinnedBridge
import Derived.LaidOnce
namespace Go.Proofs.YtlkimpjcgcacdaaGreatDoor.LaidW
open Go.ChangeShapes Go.WideShapes Go.ChangeAt Go.RowKit Go.Shelf Go.Lib

/-- A datum's cells. -/
def flatD : Nat → DataW Unit → List Value
  | n + 1, .agg l => l.flatMap (flatD n)
  | _, .lit (.int k x) => [.int k x]
  | _, .lit (.bool b) => [.bool b]
  | _, .lit (.string s) => [.string ⟨s.toArray⟩]
  | _, _ => []
def elemsD : DataW Unit → List Value
  | .slice l _ => l.flatMap (flatD 4)
  | _ => []
def textD : DataW Unit → List Value
  | .iface _ (.ptr d) => flatD 4 d
  | _ => []
noncomputable def laidWorld (os : Os) : World :=
  let N := (World.settled Tryz.prog os).heap.size
  let w0 := World.holding Tryz.prog os ⟨#[.cells caseCells5 554, .cells (elemsD Rows.laid_unicode_caseOrbit).toArray 458, .cells (textD Rows.laid_strconv_ErrSyntax).toArray 751, .cells (textD Rows.laid_strconv_ErrRange).toArray 751], #[], []⟩
  let put (h : Array Obj) (g : Nat) (cs : Array Value) : Array Obj := h.modify g fun
    | .cells _ t frozen => .cells cs t frozen
    | o => o
  let h := w0.heap
  let h := put h 4 #[.slice (some ⟨N, 0, none⟩) caseA.size caseA.size]
  let h := put h 3 #[.slice (some ⟨N + 1, 0, none⟩) ((elemsD Rows.laid_unicode_caseOrbit).length / 2) ((elemsD Rows.laid_unicode_caseOrbit).length / 2)]
  let h := put h 11 #[.iface 749 (.pointer (some ⟨N + 2, 0, none⟩))]
  let h := put h 12 #[.iface 749 (.pointer (some ⟨N + 3, 0, none⟩))]
  let h := put h 2 (flatD 4 Rows.laid_unicode_asciiFold).toArray
  let h := put h 6 (flatD 4 Rows.laid_unicode_utf8_first).toArray
  let h := put h 7 (flatD 4 Rows.laid_unicode_utf8_acceptRanges).toArray
  let h := put h 8 (flatD 4 Rows.laid_internal_strconv_uint64pow10).toArray
  let h := put h 9 (flatD 4 Rows.laid_math_bits_deBruijn32tab).toArray
  let h := put h 10 (flatD 4 Rows.laid_math_bits_deBruijn64tab).toArray
  { w0 with heap := h }

section
variable {w : World}
theorem case_reads {R : Nat} {T : Array CaseRow} (hT : CaseTab R 0 T w) (hwf : ∀ i, i < T.size → rowWf (T.getD i (0, 0, 0, 0, 0)) = true) (hn : T.size ≤ maxLen) :
    DataW.trod (fun _ => ()) Tryz.prog w 0 (fun _ => true) false 4 461 [.slice (some ⟨R, 0, none⟩) T.size T.size] =
      some (.slice ((List.range T.size).map fun i => rowData (T.getD i (0, 0, 0, 0, 0))) [], MemPlace.row ⟨R, 0, none⟩ (T.size * 5)) := by
  have c32 : Tryz.prog.cellsOf 218 = 1 := by kernel_rfl
  have ci : Tryz.prog.cellsOf 21 = 1 := by kernel_rfl
  have cd : Tryz.prog.cellsOf 552 = 3 := by kernel_rfl
  have cc : Tryz.prog.cellsOf 554 = 5 := by kernel_rfl
  have r3 : List.range 3 = [0, 1, 2] := rfl
  have row : ∀ x : CaseRow, rowWf x = true → DataW.trod (fun _ => ()) Tryz.prog w 0 (fun _ => true) false 3 554 (cells5 x) = some (rowData x, []) := by
    intro x hw
    simp only [rowWf, Bool.and_eq_true] at hw
    obtain ⟨⟨⟨⟨w0, w1⟩, w2⟩, w3⟩, w4⟩ := hw
    simp [DataW.trod, Tryz.underlying554, Tryz.underlying218, Tryz.underlying21, Tryz.underlying552, c32, ci, cd, cc, cells5, rowData, w0, w1, w2, w3, w4, r3]
  have helem : ∀ i ∈ List.range T.size, (w.cells? 0 ((⟨R, 0, none⟩ : Addr).add (i * 5)) 5).bind (DataW.trod (fun _ => ()) Tryz.prog w 0 (fun _ => true) false 3 554) = some ((fun i => ((rowData (T.getD i (0, 0, 0, 0, 0)) : DataW Unit), ([] : List MemPlace))) i) := by
    intro i hi
    have hi' := List.mem_range.1 hi
    rw [case_cells5 hT i hi', Option.bind_some]
    exact row _ (hwf i hi')
  show DataW.trod _ _ _ _ _ _ (3 + 1) _ _ = _
  unfold DataW.trod
  simp only [Tryz.underlying461, cc]
  rw [if_pos ⟨Nat.zero_le _, Nat.le_refl _, hn⟩, mapM_some _ _ _ helem]
  simp [Function.comp_def]
theorem five (i : Nat) : 0 + i = 0 + i / 5 * 5 + i % 5 := by omega
theorem case_cell {R i : Nat} {T : Array CaseRow} (hT : CaseTab R 0 T w) (hi : i < T.size * 5) {u : TypeId} {v : Value} (hc : w.cell? ⟨R, 0 + i, none⟩ = some (.iface u v)) : False := by
  obtain ⟨c0, c1, c2, c3, c4⟩ := hT (i / 5) (Nat.div_lt_of_lt_mul (by rw [Nat.mul_comm]; exact hi))
  rw [five i] at hc
  have hm : i % 5 < 5 := Nat.mod_lt _ (by decide)
  match hk : i % 5, hm with
  | 0, _ => rw [hk, Nat.add_zero, c0] at hc; cases hc
  | 1, _ => rw [hk, c1] at hc; cases hc
  | 2, _ => rw [hk, c2] at hc; cases hc
  | 3, _ => rw [hk, c3] at hc; cases hc
  | 4, _ => rw [hk, c4] at hc; cases hc
theorem case_no {R : Nat} {T : Array CaseRow} (hT : CaseTab R 0 T w) (i : Nat) (hi : i < T.size * 5) (u : TypeId) (v : Value) (hc : w.cell? ⟨R, 0 + i, none⟩ = some (.iface u v)) : False := case_cell hT hi hc
theorem rows_ok {P : Program} {ps : List MemPlace} (hr : laidRowsB P w ps = true) {b off : Nat} (hp : MemPlace.cell b off ∈ ps) : (∃ c t, w.heap[b]? = some (.cells c t (0, 0))) ∧ ∀ u v, w.cell? ⟨b, off, none⟩ = some (.iface u v) → Value.okWide P w .any 0 u v := by
  have := List.all_eq_true.1 hr _ hp
  simp only [Bool.and_eq_true] at this
  obtain ⟨h1, h2⟩ := this
  refine ⟨?_, fun u v hc => ?_⟩
  · split at h1
    · rename_i c t' hh
      exact ⟨c, t', hh⟩
    · cases h1
  · rw [hc] at h2
    exact Value.okWide_of_okWideB h2
/-- What two lists of small variables and the great table between them read as. -/
theorem laidMet_mid {l1 l2 : List (String × DataW Unit)} {T : Array CaseRow} {R : Nat} (hT : CaseTab R 0 T w) (hwf : ∀ i, i < T.size → rowWf (T.getD i (0, 0, 0, 0, 0)) = true) (hnT : T.size ≤ maxLen) (fuel : Nat)
    (hd : ((DataW.laidRun Tryz.prog w fuel (l1.map (·.1))).bind fun x => (DataW.laidRun Tryz.prog w fuel (l2.map (·.1))).map fun y => (x.1, y.1)) = some (l1, l2))
    (hn : ((DataW.laidRun Tryz.prog w fuel (l1.map (·.1))).bind fun x => (DataW.laidRun Tryz.prog w fuel (l2.map (·.1))).map fun y => nodupBits 2048 (x.2 ++ y.2) 0) = some true)
    (hr : ((DataW.laidRun Tryz.prog w fuel (l1.map (·.1))).bind fun x => (DataW.laidRun Tryz.prog w fuel (l2.map (·.1))).map fun y => laidRowsB Tryz.prog w (x.2 ++ y.2)) = some true)
    (hoff : ((DataW.laidRun Tryz.prog w fuel (l1.map (·.1))).bind fun x => (DataW.laidRun Tryz.prog w fuel (l2.map (·.1))).map fun y => (x.2 ++ y.2).all fun p => p.block != 4 && p.block != R) = some true)
    (t : TypeId) (hgR : 4 ≠ R)
    (hvar : w.heap[4]? = some (.cells #[.slice (some ⟨R, 0, none⟩) T.size T.size] 461 (0, 0)))
    {cs : Array Value} (hblk : w.heap[R]? = some (.cells cs t (0, 0))) : laidMet Tryz.prog (l1 ++ (("unicode.CaseRanges", .slice ((List.range T.size).map fun i => rowData (T.getD i (0, 0, 0, 0, 0))) []) :: l2)) w := by
  cases hx : DataW.laidRun Tryz.prog w fuel (l1.map (·.1)) with
  | none => simp [hx] at hn
  | some x =>
    cases hy : DataW.laidRun Tryz.prog w fuel (l2.map (·.1)) with
    | none => simp [hx, hy] at hn
    | some y =>
      rw [hx, hy] at hd hn hr hoff
      obtain ⟨x1, ps⟩ := x
      obtain ⟨y1, qs⟩ := y
      simp only [Option.map_some, Option.bind_some, Option.some.injEq, Prod.mk.injEq] at hd hn hr hoff
      obtain ⟨h1, h2⟩ := hd
      subst h1 h2
      have n13 : Tryz.prog.globalNamed "unicode.CaseRanges" = some 4 := by kernel_rfl
      have y13 : (Tryz.prog.globals[4]?).map (·.type) = some 461 := by kernel_rfl
      have hread := case_reads hT hwf hnT
      have hv : w.var? Tryz.prog "unicode.CaseRanges" = some #[.slice (some ⟨R, 0, none⟩) T.size T.size] := by simp [World.var?, n13, hvar]
      have hlast : DataW.LaidVars Tryz.prog w [("unicode.CaseRanges", .slice ((List.range T.size).map fun i => rowData (T.getD i (0, 0, 0, 0, 0))) [])] (MemPlace.row ⟨4, 0, none⟩ 1 ++ MemPlace.row ⟨R, 0, none⟩ (T.size * 5) ++ []) :=
        ⟨4, 461, _, _, _, [], n13, y13, hv, hread, rfl, rfl⟩
      have hall : (ps ++ qs).Nodup := (nodupBits_sound hn).1
      have hblocks : ∀ p ∈ ps ++ qs, p.block ≠ 4 ∧ p.block ≠ R := fun p hp => by
        have := List.all_eq_true.1 hoff p hp
        simpa using this
      have hmid : ∀ p, p ∈ MemPlace.row ⟨4, 0, none⟩ 1 ++ MemPlace.row ⟨R, 0, none⟩ (T.size * 5) → p.block = 4 ∨ p.block = R := by
        intro p hp
        rcases List.mem_append.1 hp with hp | hp
        · obtain ⟨i, _, rfl⟩ := MemPlace.mem_row.1 hp
          exact .inl rfl
        · obtain ⟨i, _, rfl⟩ := MemPlace.mem_row.1 hp
          exact .inr rfl
      rw [List.append_nil] at hlast
      refine ⟨_, LaidVars_append (DataW.LaidVars_of_laidRun hx) (show DataW.LaidVars Tryz.prog w ([("unicode.CaseRanges", .slice ((List.range T.size).map fun i => rowData (T.getD i (0, 0, 0, 0, 0))) [])] ++ y1) _ from LaidVars_append hlast (DataW.LaidVars_of_laidRun hy)), ?_, fun b off hp => ?_⟩
      · obtain ⟨n1, n2, n3⟩ := List.nodup_append.1 hall
        refine List.nodup_append.2 ⟨n1, List.nodup_append.2 ⟨List.nodup_append.2 ⟨row_nodup _ _, row_nodup _ _, ?_⟩, n2, ?_⟩, ?_⟩
        · intro a ha b hb e
          obtain ⟨i, _, rfl⟩ := MemPlace.mem_row.1 ha
          obtain ⟨j, _, rfl⟩ := MemPlace.mem_row.1 hb
          simp at e
          exact hgR e.1
        · intro a ha b hb e
          subst e
          obtain ⟨h1, h2⟩ := hblocks a (List.mem_append_right _ hb)
          rcases hmid a ha with h | h
          · exact h1 h
          · exact h2 h
        · intro a ha b hb e
          subst e
          obtain ⟨h1, h2⟩ := hblocks a (List.mem_append_left _ ha)
          rcases List.mem_append.1 hb with hb | hb
          · rcases hmid a hb with h | h
            · exact h1 h
            · exact h2 h
          · exact n3 a ha a hb rfl
      · rcases List.mem_append.1 hp with hp | hp
        · exact rows_ok hr (List.mem_append_left _ hp)
        · rcases List.mem_append.1 hp with hp | hp
          · rcases List.mem_append.1 hp with hp | hp
            · obtain ⟨i, hi, e⟩ := MemPlace.mem_row.1 hp
              cases e
              refine ⟨⟨_, _, hvar⟩, fun u v hc => ?_⟩
              have hi0 : i < 1 := hi
              obtain rfl : i = 0 := Nat.lt_one_iff.1 hi0
              rw [Lib.cell_of_heap hvar] at hc
              simp at hc
            · obtain ⟨i, hi, e⟩ := MemPlace.mem_row.1 hp
              cases e
              refine ⟨⟨_, _, hblk⟩, fun u v hc => ?_⟩
              have hi0 : i < T.size * 5 := hi
              have hc0 : w.cell? ⟨R, 0 + i, none⟩ = some (.iface u v) := hc
              have hno := case_no hT i hi0 u v hc0
              exact hno.elim
          · exact rows_ok hr (List.mem_append_right _ hp)
end

def laid1 : List (String × DataW Unit) := [("math/bits.deBruijn64tab", Rows.laid_math_bits_deBruijn64tab), ("unicode/utf8.first", Rows.laid_unicode_utf8_first), ("unicode/utf8.acceptRanges", Rows.laid_unicode_utf8_acceptRanges), ("unicode.asciiFold", Rows.laid_unicode_asciiFold), ("unicode.caseOrbit", Rows.laid_unicode_caseOrbit)]
def laid2 : List (String × DataW Unit) := [("internal/strconv.uint64pow10", Rows.laid_internal_strconv_uint64pow10), ("math/bits.deBruijn32tab", Rows.laid_math_bits_deBruijn32tab), ("strconv.ErrSyntax", Rows.laid_strconv_ErrSyntax), ("strconv.ErrRange", Rows.laid_strconv_ErrRange)]
/-- The list that every row of this seat gives. -/
def laidL : List (String × DataW Unit) := laid1 ++ (("unicode.CaseRanges", Rows.laid_unicode_CaseRanges) :: laid2)
noncomputable def place : Nat := (World.settled Tryz.prog default).heap.size
theorem run_hd (os : Os) (args : Array Value) : ((DataW.laidRun Tryz.prog (((laidWorld os).forCall (fun _ _ => 0) ⟨#[], args, []⟩).memory) 10 (laid1.map (·.1))).bind fun x => (DataW.laidRun Tryz.prog (((laidWorld os).forCall (fun _ _ => 0) ⟨#[], args, []⟩).memory) 10 (laid2.map (·.1))).map fun y => (x.1, y.1)) = some (laid1, laid2) := by kernel_rfl
theorem run_hn (os : Os) (args : Array Value) : ((DataW.laidRun Tryz.prog (((laidWorld os).forCall (fun _ _ => 0) ⟨#[], args, []⟩).memory) 10 (laid1.map (·.1))).bind fun x => (DataW.laidRun Tryz.prog (((laidWorld os).forCall (fun _ _ => 0) ⟨#[], args, []⟩).memory) 10 (laid2.map (·.1))).map fun y => nodupBits 2048 (x.2 ++ y.2) 0) = some true := by kernel_rfl
theorem run_hr (os : Os) (args : Array Value) : ((DataW.laidRun Tryz.prog (((laidWorld os).forCall (fun _ _ => 0) ⟨#[], args, []⟩).memory) 10 (laid1.map (·.1))).bind fun x => (DataW.laidRun Tryz.prog (((laidWorld os).forCall (fun _ _ => 0) ⟨#[], args, []⟩).memory) 10 (laid2.map (·.1))).map fun y => laidRowsB Tryz.prog (((laidWorld os).forCall (fun _ _ => 0) ⟨#[], args, []⟩).memory) (x.2 ++ y.2)) = some true := by kernel_rfl
theorem run_hoff (os : Os) (args : Array Value) : ((DataW.laidRun Tryz.prog (((laidWorld os).forCall (fun _ _ => 0) ⟨#[], args, []⟩).memory) 10 (laid1.map (·.1))).bind fun x => (DataW.laidRun Tryz.prog (((laidWorld os).forCall (fun _ _ => 0) ⟨#[], args, []⟩).memory) 10 (laid2.map (·.1))).map fun y => (x.2 ++ y.2).all fun p => p.block != 4 && p.block != place) = some true := by kernel_rfl
theorem run_blk (os : Os) (args : Array Value) : (((laidWorld os).forCall (fun _ _ => 0) ⟨#[], args, []⟩).memory).heap[place]? = some (.cells caseCells5 554 (0, 0)) := by kernel_rfl
theorem run_var (os : Os) (args : Array Value) : (((laidWorld os).forCall (fun _ _ => 0) ⟨#[], args, []⟩).memory).heap[4]? = some (.cells #[.slice (some ⟨place, 0, none⟩) caseA.size caseA.size] 461 (0, 0)) := by kernel_rfl
theorem place_ne : 4 ≠ place := of_decide_eq_true (by kernel_rfl)
/-- ████ THE WORLD HOLDS THEM. -/
theorem laid_met (os : Os) (args : Array Value) : laidMet Tryz.prog laidL (((laidWorld os).forCall (fun _ _ => 0) ⟨#[], args, []⟩).memory) := by
  have h := laidMet_mid (caseTab_of_block (run_blk os args)) caseA_wf (by rw [caseA_size]; unfold maxLen; omega) 10 (run_hd os args) (run_hn os args) (run_hr os args) (run_hoff os args) _ place_ne (run_var os args) (run_blk os args)
  rw [case_rows_data] at h
  unfold laidL Rows.laid_unicode_CaseRanges
  rw [Pinned.caseRanges_eq]
  exact h
theorem vars_ok (os : Os) (args : Array Value) : ((laidWorld os).forCall (fun _ _ => 0) ⟨#[], args, []⟩).variablesRefB Tryz.prog = true := by kernel_rfl
theorem heap_ok (os : Os) (args : Array Value) : (((laidWorld os).forCall (fun _ _ => 0) ⟨#[], args, []⟩).heap.toList.drop Tryz.prog.globals.size).take ((begin Tryz.prog (fun _ _ => 0) default).world.heap.size - Tryz.prog.globals.size) =
      (begin Tryz.prog (fun _ _ => 0) default).world.heap.toList.drop Tryz.prog.globals.size := by kernel_rfl
theorem own : ownKnob Tryz.prog.godebug = none := by kernel_rfl
end Go.Proofs.YtlkimpjcgcacdaaGreatDoor.LaidW
