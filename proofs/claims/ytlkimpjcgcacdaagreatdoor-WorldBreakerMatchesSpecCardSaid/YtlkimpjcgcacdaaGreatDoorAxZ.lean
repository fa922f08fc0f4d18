/- Closed facts of a great program, in parts. -/
import Derived.JoinedOf
import GoSem.ClaimGoes
import Derived.KernelRfl
import Derived.LaidByTextLater
import Derived.LaidOnce
import Derived.Deep.DeepLaidBlocks
namespace Go.Facts
open Go
structure Row where
  leads : List Nat
  globs : List Nat
  reads : Option String
  place : Option String
  loose : Bool
def rowOf (P : Program) (fn : Func) : Row :=
  { leads := P.leadsTo fn, globs := fn.body.elim [] Code.globalsNamed, reads := if fn.body.isNone then entryReads.lookup fn.name else none,
    place := if fn.ours || fn.body.isNone || fn.name == "runtime.NumGoroutine" then some fn.name else none,
    loose := match fn.body with | some c => c.unfollowed | none => entryCalls fn }
def Tab (P : Program) (T : List Row) : Prop := ∀ g : Nat, (P.funcs[g]?).map (rowOf P) = T[g]?
theorem tab_of {P : Program} {T : List Row} (h : (List.range' 0 P.funcs.size).map (fun g => (P.funcs[g]?).map (rowOf P)) = T.map some) : Tab P T := by
  intro g
  have hl : T.length = P.funcs.size := by simpa using (congrArg List.length h).symm
  by_cases hg : g < P.funcs.size
  · have := congrArg (fun l => l[g]?) h
    simp only [List.getElem?_map] at this
    rw [List.getElem?_range' (by simpa using hg)] at this
    simp only [Nat.zero_add, Nat.one_mul, Option.map_some] at this
    have ht : g < T.length := by omega
    rw [List.getElem?_eq_getElem ht, Option.map_some] at this
    rw [List.getElem?_eq_getElem ht]
    exact Option.some.inj this
  · rw [Array.getElem?_eq_none (by omega), List.getElem?_eq_none (by omega)]
    rfl
def walk (T : List Row) : Nat → List Nat → List Nat → Nat → Option (List Nat)
  | _, [], seen, _ => some seen.reverse
  | 0, _ :: _, _, _ => none
  | n + 1, f :: todo, seen, m =>
    match m.testBit f with
    | true => walk T n todo seen m
    | false => walk T n ((T[f]?).elim [] (·.leads) ++ todo) (f :: seen) (m ||| 1 <<< f)
theorem walk_sound {P : Program} {T : List Row} (hT : Tab P T) : ∀ (n : Nat) (todo seen : List Nat) (m : Nat) (L : List Nat), (∀ f, m.testBit f = seen.contains f) → walk T n todo seen m = some L → P.closureVia n todo seen = L
  | 0, [], seen, m, L, _, h => by simpa [walk, Program.closureVia] using h
  | n + 1, [], seen, m, L, _, h => by simpa [walk, Program.closureVia] using h
  | 0, _ :: _, _, _, _, _, h => by simp [walk] at h
  | n + 1, f :: todo, seen, m, L, hm, h => by
    unfold walk at h
    unfold Program.closureVia
    cases hb : m.testBit f with
    | true =>
      rw [hb] at h
      rw [if_pos (by rw [← hm f]; exact hb)]
      exact walk_sound hT n todo seen m L hm h
    | false =>
      rw [hb] at h
      rw [if_neg (by rw [← hm f, hb]; decide)]
      have e : (P.funcs[f]?).elim [] P.leadsTo = (T[f]?).elim [] (·.leads) := by
        rw [← hT f]
        cases P.funcs[f]? <;> rfl
      rw [e]
      refine walk_sound hT n _ _ _ L (fun k => ?_) h
      rw [Nat.testBit_or, Nat.one_shiftLeft, Nat.testBit_two_pow, List.contains_cons, hm k, Bool.or_comm]
      congr 1
      rw [Bool.eq_iff_iff]
      simp only [decide_eq_true_eq, beq_iff_eq]
      exact eq_comm
def steps (T : List Row) : Nat := 1 + (T.map fun x => x.leads.length + 1).sum
theorem closure_of {P : Program} {T : List Row} (hT : Tab P T) {f : Nat} {L : List Nat} (h : walk T (steps T) [f] [] 0 = some L) : P.closure f = L := by
  unfold Program.closure
  have e : (P.funcs.toList.map fun g => (P.leadsTo g).length + 1) = T.map fun x => x.leads.length + 1 := by
    apply List.ext_getElem?
    intro g
    rw [List.getElem?_map, List.getElem?_map, ← hT g, Array.getElem?_toList]
    cases P.funcs[g]? <;> rfl
  rw [e]
  exact walk_sound hT _ _ _ _ _ (fun k => by simp) h
def placeL (T : List Row) (L : List Nat) : List String := L.filterMap fun g => (T[g]?).bind (·.place)
def looseL (T : List Row) (L : List Nat) : Bool := L.any fun g => (T[g]?).any (·.loose)
def namedL (P : Program) (T : List Row) (L : List Nat) : List String :=
  (((L.flatMap fun g => (T[g]?).elim [] (·.globs)).eraseDups).filterMap (fun g => (P.globals[g]?).map (·.name)) ++ L.filterMap fun g => (T[g]?).bind (·.reads)).eraseDups
section
variable {P : Program} {T : List Row} (hT : Tab P T) {f : Nat} {L : List Nat} (hL : P.closure f = L)
include hT hL
theorem inPlace_of : P.inPlace f = placeL T L := by
  unfold Program.inPlace placeL
  rw [hL]
  congr 1
  funext g
  rw [← hT g]
  cases P.funcs[g]? <;> rfl
theorem unfollowed_of : P.unfollowed f = looseL T L := by
  unfold Program.unfollowed looseL
  rw [hL]
  congr 1
  funext g
  rw [← hT g]
  cases P.funcs[g]? <;> rfl
theorem recurses_of (h : looseL T L = true) : P.recurses f = true := by
  unfold Program.recurses
  rw [unfollowed_of hT hL, h, Bool.true_or]
theorem varsNamed_of : P.varsNamed f = namedL P T L := by
  unfold Program.varsNamed namedL
  rw [hL]
  congr 2
  · congr 2
    apply congrArg (fun k => List.flatMap k L)
    funext g
    rw [← hT g]
    cases P.funcs[g]? <;> rfl
  · congr 1
    funext g
    rw [← hT g]
    cases P.funcs[g]? <;> rfl
end
theorem goes_of {P : Program} (h : P.funcs.any Func.goes = false) (f : FuncId) : P.goes f = false := by
  have hall : ∀ g : Nat, (P.funcs[g]?).any Func.goes = false := fun g => by
    cases hg : P.funcs[g]? with
    | none => rfl
    | some fn =>
      obtain ⟨hl, rfl⟩ := Array.getElem?_eq_some_iff.1 hg
      have := Array.any_eq_false.1 h g hl
      simpa using this
  unfold Program.goes
  rw [h, Bool.and_false, Bool.or_false, List.any_eq_false]
  intro g _
  rw [hall g]
  decide
theorem goesBy_of {P : Program} {c : OpenClaim} (h : P.funcs.any Func.goes = false) (hs : c.start = .entering) : false = c.goesBy P := by
  unfold OpenClaim.goesBy Program.goesAt Program.goesFrom
  rw [hs]
  cases P.funcNamed c.func with
  | none => rfl
  | some f => simp [goes_of h f]
end Go.Facts

namespace Go.Facts
open Go
def ifaceIn (w : World) (Q : List MemPlace) (ps : List MemPlace) : Bool := ps.all fun p => match p with
  | .cell b off => (match w.cell? ⟨b, off, none⟩ with | some (.iface _ _) => Q.contains p | _ => true)
  | .map _ => true
theorem laidMet_of_blocks2 {P : Program} {w w' : World} {l : List (String × DataW Unit)} (fuel : Nat) (B : List Nat) (Q : List MemPlace)
    (h : (DataW.laidRun P w fuel (l.map (·.1))).map (·.1) = some l)
    (hn : (DataW.laidRun P w fuel (l.map (·.1))).map (fun x => nodupBits 2048 x.2 0) = some true)
    (hr : (DataW.laidRun P w fuel (l.map (·.1))).map (fun x => laidRowsB P w x.2) = some true)
    (hin : (DataW.laidRun P w fuel (l.map (·.1))).map (fun x => placesIn B x.2) = some true)
    (hni : (DataW.laidRun P w fuel (l.map (·.1))).map (fun x => ifaceIn w Q x.2) = some true)
    (hvars : varsIn P B l = true) (hB : AgreeOn B w w') (hQ : laidRowsB P w' Q = true) : laidMet P l w' := by
  cases hx : DataW.laidRun P w fuel (l.map (·.1)) with
  | none => simp [hx] at h
  | some x =>
    rw [hx] at h hn hr hin hni
    simp only [Option.map_some, Option.some.injEq] at h hn hr hin hni
    obtain ⟨x1, ps⟩ := x
    simp only at h hn hr hin hni
    subst h
    have hv0 : DataW.LaidVars P w x1 ps := DataW.LaidVars_of_laidRun hx
    have hIn : ∀ p ∈ ps, p.block ∈ B := fun p hp => by
      have := List.all_eq_true.1 hin p hp
      simpa using this
    have hVars : ∀ nd ∈ x1, ∀ g, P.globalNamed nd.1 = some g → g ∈ B := fun nd hnd' g hg => by
      have := List.all_eq_true.1 hvars nd hnd'
      rw [hg] at this
      simpa using this
    refine ⟨ps, LaidVars_of_blocks hB hv0 hIn hVars, (nodupBits_sound hn).1, fun b off hp => ?_⟩
    have hb : b ∈ B := hIn _ hp
    have h1 := List.all_eq_true.1 hr _ hp
    have h2 := List.all_eq_true.1 hni _ hp
    simp only [Bool.and_eq_true] at h1
    refine ⟨?_, fun u v hc => ?_⟩
    · rw [hB b hb]
      have h11 := h1.1
      split at h11
      · rename_i c t hh
        exact ⟨c, t, hh⟩
      · cases h11
    · have hc' : w.cell? ⟨b, off, none⟩ = some (.iface u v) := (World.cell?_of_block (w := w) (w' := w') (a := ⟨b, off, none⟩) (hB b hb)).symm.trans hc
      simp only [hc'] at h2
      have hq : MemPlace.cell b off ∈ Q := by simpa using h2
      have h3 := List.all_eq_true.1 hQ _ hq
      simp only [Bool.and_eq_true] at h3
      have h4 := h3.2
      rw [hc] at h4
      exact Value.okWide_of_okWideB h4
theorem tie_of_blocks {P : Program} {laid : List (String × DataW Unit)} {kinds : List LaidKind} {tests : Bool} (n fuel : Nat) (wL : World) (B : List Nat) (Q : List MemPlace)
    (hw : P.worded (varsWordLater tests) = true) (hw' : P.worded (varsWordLater !tests) = false) (hroot : P.worded rootWordLater = true) (hk : laid.map (fun x => P.kindOfLater x.1) = kinds.map some)
    (hg : (P.funcNamed "gosem.cut.vars").isSome = true)
    (hn : varsNamedLaterB P (varsId P) laid = true)
    (hd : ∀ os tape, varsDone P n (varsId P) os tape = true)
    (h1 : (DataW.laidRun P wL fuel (laid.map (·.1))).map (·.1) = some laid)
    (h2 : (DataW.laidRun P wL fuel (laid.map (·.1))).map (fun x => nodupBits 2048 x.2 0) = some true)
    (h3 : (DataW.laidRun P wL fuel (laid.map (·.1))).map (fun x => laidRowsB P wL x.2) = some true)
    (h4 : (DataW.laidRun P wL fuel (laid.map (·.1))).map (fun x => placesIn B x.2) = some true)
    (h5 : (DataW.laidRun P wL fuel (laid.map (·.1))).map (fun x => ifaceIn wL Q x.2) = some true)
    (h6 : varsIn P B laid = true)
    (hB : ∀ os tape, AgreeOn B wL (varsWorld P n (varsId P) os tape).memory)
    (hQ : ∀ os tape, laidRowsB P (varsWorld P n (varsId P) os tape).memory Q = true)
    (hp : (laid.all fun x => x.2.handleName?.isNone) = true) :
    P.laidByTextLater laid kinds tests := by
  unfold varsNamedLaterB at hn
  cases hc : (P.funcs[varsId P]?).bind (·.body) with
  | none => simp [hc] at hn
  | some code =>
   cases hs : code.laysInOrder [] with
   | none => simp [hc, hs] at hn
   | some stored =>
    simp only [hc, hs, Bool.and_eq_true] at hn
    refine ⟨⟨hw, hw', hroot, hk⟩, varsId P, code, stored, varsId_spec hg, hc, ⟨hs, hn.1.1, hn.1.2⟩, hn.2, fun os tape _ => ?_⟩
    have d := hd os tape
    have m := laidMet_of_blocks2 fuel B Q h1 h2 h3 h4 h5 h6 (hB os tape) (hQ os tape)
    unfold varsDone at d
    unfold varsWorld at m
    cases hr : runN P n (Machine.entering P (World.unlaid P os) tape (varsId P) ⟨#[], #[], []⟩) with
    | next mm => simp [hr] at d
    | ended o w =>
      cases o with
      | done v => simp only [hr] at m; exact ⟨n, v, w, hr, by rw [MakeChecks.laidMetH_plain _ _ _ hp]; exact m⟩
      | _ => simp [hr] at d
end Go.Facts
