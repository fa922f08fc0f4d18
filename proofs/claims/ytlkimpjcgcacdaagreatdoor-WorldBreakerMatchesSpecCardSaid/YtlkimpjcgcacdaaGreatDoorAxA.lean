/- An evaluator of the model's code over a virtual heap, and that it is sound (part 1 of 3). -/
import Derived.Calls
import Derived.Laws.Cells
import Derived.Laws.World
import Derived.Laws.Append
import Derived.Laws.Entries
import Derived.Below
import Derived.Laws.Strings
import Derived.Laws.Slices
import Derived.Laws.StructEq
namespace Go.Ax
inductive T (α : Type) where
  | nil
  | node (v : Option α) (l r : T α)
namespace T
variable {α β : Type}
noncomputable def get (t : T α) : Nat → Option α :=
  T.rec (motive := fun _ => Nat → Option α) (fun _ => none)
    (fun v _ _ gl gr k => Nat.rec (motive := fun _ => Option α) v (fun k _ => Bool.rec (motive := fun _ => Option α) (gl (Nat.div k (nat_lit 2))) (gr (Nat.div k (nat_lit 2))) (Nat.beq (Nat.mod k (nat_lit 2)) (nat_lit 1))) k) t
noncomputable def path (f : Nat) : Nat → Option α → T α :=
  Nat.rec (motive := fun _ => Nat → Option α → T α) (fun _ _ => nil)
    (fun _ ih k a => Nat.rec (motive := fun _ => T α) (node a nil nil) (fun k _ => Bool.rec (motive := fun _ => T α)
      (node none (ih (Nat.div k (nat_lit 2)) a) nil) (node none nil (ih (Nat.div k (nat_lit 2)) a)) (Nat.beq (Nat.mod k (nat_lit 2)) (nat_lit 1))) k) f
noncomputable def set (t : T α) (k : Nat) (a : Option α) : T α :=
  T.rec (motive := fun _ => Nat → T α) (fun k => path (Nat.succ k) k a)
    (fun v l r gl gr k => Nat.rec (motive := fun _ => T α) (node a l r) (fun k _ => Bool.rec (motive := fun _ => T α)
      (node v (gl (Nat.div k (nat_lit 2))) r) (node v l (gr (Nat.div k (nat_lit 2)))) (Nat.beq (Nat.mod k (nat_lit 2)) (nat_lit 1))) k) t k
theorem get_nil (k : Nat) : (nil : T α).get k = none := rfl
theorem get_zero (v : Option α) (l r : T α) : (node v l r).get 0 = v := rfl
theorem get_succ (v : Option α) (l r : T α) (k : Nat) : (node v l r).get (k + 1) = if k % 2 = 1 then r.get (k / 2) else l.get (k / 2) := by
  show Bool.rec (motive := fun _ => Option α) (l.get (k / 2)) (r.get (k / 2)) (Nat.beq (k % 2) 1) = _
  cases h : Nat.beq (k % 2) 1 with
  | true => rw [if_pos (Nat.eq_of_beq_eq_true h)]
  | false => rw [if_neg (Nat.ne_of_beq_eq_false h)]
theorem path_zero (f : Nat) (a : Option α) : path (f + 1) 0 a = node a nil nil := rfl
theorem path_succ (f k : Nat) (a : Option α) : path (f + 1) (k + 1) a = if k % 2 = 1 then node none nil (path f (k / 2) a) else node none (path f (k / 2) a) nil := by
  show Bool.rec (motive := fun _ => T α) (node none (path f (k / 2) a) nil) (node none nil (path f (k / 2) a)) (Nat.beq (k % 2) 1) = _
  cases h : Nat.beq (k % 2) 1 with
  | true => rw [if_pos (Nat.eq_of_beq_eq_true h)]
  | false => rw [if_neg (Nat.ne_of_beq_eq_false h)]
theorem set_nil (k : Nat) (a : Option α) : (nil : T α).set k a = path (k + 1) k a := rfl
theorem set_zero (v : Option α) (l r : T α) (a : Option α) : (node v l r).set 0 a = node a l r := rfl
theorem set_succ (v : Option α) (l r : T α) (k : Nat) (a : Option α) : (node v l r).set (k + 1) a = if k % 2 = 1 then node v l (r.set (k / 2) a) else node v (l.set (k / 2) a) r := by
  show Bool.rec (motive := fun _ => T α) (node v (l.set (k / 2) a) r) (node v l (r.set (k / 2) a)) (Nat.beq (k % 2) 1) = _
  cases h : Nat.beq (k % 2) 1 with
  | true => rw [if_pos (Nat.eq_of_beq_eq_true h)]
  | false => rw [if_neg (Nat.ne_of_beq_eq_false h)]
theorem get_path : ∀ (f k j : Nat) (a : Option α), k < f → (path f k a).get j = if j = k then a else none := by
  intro f
  induction f with
  | zero => intro k j a h; omega
  | succ f ih =>
    intro k j a h
    cases k with
    | zero =>
      rw [path_zero]
      cases j with
      | zero => rw [get_zero, if_pos rfl]
      | succ j => rw [get_succ, if_neg (c := j + 1 = 0) (by omega)]; simp [get_nil]
    | succ k =>
      rw [path_succ]
      by_cases hk : k % 2 = 1
      · rw [if_pos hk]
        cases j with
        | zero => rw [get_zero, if_neg (by omega)]
        | succ j =>
          rw [get_succ, ih (k / 2) (j / 2) a (by omega)]
          by_cases hj : j % 2 = 1
          · rw [if_pos hj]
            by_cases e : j = k
            · subst e; simp
            · rw [if_neg (by omega), if_neg (by omega)]
          · rw [if_neg hj, if_neg (by omega)]; rfl
      · rw [if_neg hk]
        cases j with
        | zero => rw [get_zero, if_neg (by omega)]
        | succ j =>
          rw [get_succ, ih (k / 2) (j / 2) a (by omega)]
          by_cases hj : j % 2 = 1
          · rw [if_pos hj, if_neg (by omega)]; rfl
          · rw [if_neg hj]
            by_cases e : j = k
            · subst e; simp
            · rw [if_neg (by omega), if_neg (by omega)]
theorem get_set (t : T α) : ∀ (k j : Nat) (a : Option α), (t.set k a).get j = if j = k then a else t.get j := by
  induction t with
  | nil => intro k j a; rw [set_nil, get_path _ _ _ _ (Nat.lt_succ_self _), get_nil]
  | node v l r ihl ihr =>
    intro k j a
    cases k with
    | zero =>
      rw [set_zero]
      cases j with
      | zero => rw [get_zero, if_pos rfl]
      | succ j => rw [get_succ, get_succ, if_neg (c := j + 1 = 0) (by omega)]
    | succ k =>
      rw [set_succ]
      by_cases hk : k % 2 = 1
      · rw [if_pos hk]
        cases j with
        | zero => rw [get_zero, if_neg (by omega), get_zero]
        | succ j =>
          rw [get_succ, get_succ, ihr (k / 2) (j / 2) a]
          by_cases hj : j % 2 = 1
          · rw [if_pos hj, if_pos hj]
            by_cases e : j = k
            · subst e; simp
            · rw [if_neg (by omega), if_neg (by omega)]
          · rw [if_neg hj, if_neg hj, if_neg (by omega)]
      · rw [if_neg hk]
        cases j with
        | zero => rw [get_zero, if_neg (by omega), get_zero]
        | succ j =>
          rw [get_succ, get_succ, ihl (k / 2) (j / 2) a]
          by_cases hj : j % 2 = 1
          · rw [if_pos hj, if_pos hj, if_neg (by omega)]
          · rw [if_neg hj, if_neg hj]
            by_cases e : j = k
            · subst e; simp
            · rw [if_neg (by omega), if_neg (by omega)]
theorem get_set_same (t : T α) (k : Nat) (a : Option α) : (t.set k a).get k = a := by rw [get_set, if_pos rfl]
theorem get_set_ne (t : T α) {k j : Nat} (a : Option α) (h : j ≠ k) : (t.set k a).get j = t.get j := by rw [get_set, if_neg h]
noncomputable def put (t : T α) (i : Nat) (xs : List α) : T α :=
  List.rec (motive := fun _ => T α → Nat → T α) (fun t _ => t) (fun x _ ih t i => ih (t.set i (some x)) (Nat.succ i)) xs t i
theorem put_nil (t : T α) (i : Nat) : put t i [] = t := rfl
theorem put_cons (t : T α) (i : Nat) (x : α) (xs : List α) : put t i (x :: xs) = put (t.set i (some x)) (i + 1) xs := rfl
theorem get_put : ∀ (xs : List α) (t : T α) (i j : Nat), (put t i xs).get j = if i ≤ j ∧ j < i + xs.length then xs[j - i]? else t.get j := by
  intro xs
  induction xs with
  | nil => intro t i j; rw [put_nil, if_neg (by simp)]
  | cons x xs ih =>
    intro t i j
    rw [put_cons, ih]
    by_cases h0 : j = i
    · subst h0
      rw [if_neg (by omega), get_set_same, if_pos (by simp)]
      simp
    · by_cases h1 : i + 1 ≤ j ∧ j < i + 1 + xs.length
      · rw [if_pos h1, if_pos (by simp; omega)]
        have e : j - i = (j - (i + 1)) + 1 := by omega
        rw [e, List.getElem?_cons_succ]
      · rw [if_neg h1, get_set_ne _ _ h0, if_neg (by simp; omega)]
noncomputable def ofList (xs : List α) : T α := put nil 0 xs
theorem get_ofList (xs : List α) (j : Nat) : (ofList xs).get j = xs[j]? := by
  rw [ofList, get_put]
  by_cases h : j < xs.length
  · rw [if_pos (by omega)]; simp
  · rw [if_neg (by omega), get_nil, List.getElem?_eq_none (by omega)]
noncomputable def take (t : T α) (i n : Nat) : Option (List α) :=
  Nat.rec (motive := fun _ => Nat → Option (List α)) (fun _ => some [])
    (fun _ ih i => Option.rec (motive := fun _ => Option (List α)) none (fun x => Option.rec (motive := fun _ => Option (List α)) none (fun xs => some (x :: xs)) (ih (Nat.succ i))) (t.get i)) n i
theorem take_zero (t : T α) (i : Nat) : t.take i 0 = some [] := rfl
theorem take_succ (t : T α) (i n : Nat) : t.take i (n + 1) = match t.get i with
    | none => none
    | some x => match t.take (i + 1) n with
      | none => none
      | some xs => some (x :: xs) := by
  show Option.rec (motive := fun _ => Option (List α)) none (fun x => Option.rec (motive := fun _ => Option (List α)) none (fun xs => some (x :: xs)) (t.take (i + 1) n)) (t.get i) = _
  cases t.get i with
  | none => rfl
  | some x => cases t.take (i + 1) n <;> rfl
theorem take_length : ∀ (n : Nat) (t : T α) (i : Nat) (xs : List α), t.take i n = some xs → xs.length = n := by
  intro n
  induction n with
  | zero => intro t i xs h; rw [take_zero] at h; cases h; rfl
  | succ n ih =>
    intro t i xs h
    rw [take_succ] at h
    cases h1 : t.get i with
    | none => simp [h1] at h
    | some x =>
      cases h2 : t.take (i + 1) n with
      | none => simp [h1, h2] at h
      | some ys => simp [h1, h2] at h; rw [← h]; simp [ih _ _ _ h2]
theorem take_get : ∀ (n : Nat) (t : T α) (i : Nat) (xs : List α), t.take i n = some xs → ∀ j, j < n → t.get (i + j) = xs[j]? := by
  intro n
  induction n with
  | zero => intro t i xs _ j hj; omega
  | succ n ih =>
    intro t i xs h j hj
    rw [take_succ] at h
    cases h1 : t.get i with
    | none => simp [h1] at h
    | some x =>
      cases h2 : t.take (i + 1) n with
      | none => simp [h1, h2] at h
      | some ys =>
        simp [h1, h2] at h
        subst h
        cases j with
        | zero => simp [h1]
        | succ j =>
          have := ih _ _ _ h2 j (by omega)
          rw [List.getElem?_cons_succ, ← this]
          congr 1; omega
end T
end Go.Ax

namespace Go.Ax
structure Loc where
  blk : Nat
  sh : Nat
  ext : Nat
abbrev Env := Nat → Option Loc
def Env.le (ρ ρ' : Env) : Prop := ∀ b l, ρ b = some l → ρ' b = some l
theorem Env.le_refl (ρ : Env) : ρ.le ρ := fun _ _ h => h
theorem Env.le_trans {a b c : Env} (h : a.le b) (k : b.le c) : a.le c := fun x l e => k x l (h x l e)
def Env.put (ρ : Env) (b : Nat) (l : Loc) : Env := fun x => if x = b then some l else ρ x
theorem Env.put_same (ρ : Env) (b : Nat) (l : Loc) : ρ.put b l b = some l := by simp [Env.put]
theorem Env.put_ne (ρ : Env) {b x : Nat} (l : Loc) (h : x ≠ b) : ρ.put b l x = ρ x := by simp [Env.put, h]
theorem Env.le_put {ρ : Env} {b : Nat} (h : ρ b = none) (l : Loc) : ρ.le (ρ.put b l) := by
  intro x k e
  by_cases hx : x = b
  · subst hx; rw [h] at e; cases e
  · rw [Env.put_ne ρ l hx]; exact e
def concAddr (ρ : Env) : Addr → Option Addr
  | ⟨b, off, none⟩ => match ρ b with
    | some l => some ⟨l.blk, l.sh + off, none⟩
    | none => none
  | _ => none
def concSlice (ρ : Env) (len cap : Nat) : Addr → Option Value
  | ⟨b, off, sp⟩ => match ρ b with
    | some l => some (.slice (some ⟨l.blk, l.sh + off, none⟩) len (match sp with | none => cap | some _ => cap + l.ext))
    | none => none
mutual
def conc (ρ : Env) : Value → Option Value
  | .pointer (some a) => match concAddr ρ a with
    | some a => some (.pointer (some a))
    | none => none
  | .slice (some a) len cap => concSlice ρ len cap a
  | .map (some r) => match ρ r with
    | some l => some (.map (some l.blk))
    | none => none
  | .chan (some _) => none
  | .func fn first captured => match fn with
    | .yield _ => none
    | fn => match concA ρ first, concA ρ captured with
      | some a, some b => some (.func fn a b)
      | _, _ => none
  | .iface t v => match conc ρ v with
    | some v => some (.iface t v)
    | none => none
  | .agg cs => match concA ρ cs with
    | some cs => some (.agg cs)
    | none => none
  | .tuple cs => match concA ρ cs with
    | some cs => some (.tuple cs)
    | none => none
  | v => some v
def concA (ρ : Env) : Array Value → Option (Array Value)
  | ⟨l⟩ => match concL ρ l with
    | some l => some ⟨l⟩
    | none => none
def concL (ρ : Env) : List Value → Option (List Value)
  | [] => some []
  | v :: vs => match conc ρ v, concL ρ vs with
    | some v, some vs => some (v :: vs)
    | _, _ => none
end
mutual
theorem conc_mono {ρ ρ' : Env} (h : ρ.le ρ') : ∀ {v v' : Value}, conc ρ v = some v' → conc ρ' v = some v'
  | .pointer (some ⟨b, off, sp⟩), v', e => by
    cases sp with
    | some s => simp [conc, concAddr] at e
    | none =>
      cases hb : ρ b with
      | none => simp [conc, concAddr, hb] at e
      | some l => simpa [conc, concAddr, hb, h b l hb] using e
  | .slice (some ⟨b, off, sp⟩) len cap, v', e => by
    cases hb : ρ b with
    | none => simp [conc, concSlice, hb] at e
    | some l => simpa [conc, concSlice, hb, h b l hb] using e
  | .map (some r), v', e => by
    cases hb : ρ r with
    | none => simp [conc, hb] at e
    | some l => simpa [conc, hb, h r l hb] using e
  | .chan (some _), v', e => by simp [conc] at e
  | .func fn first captured, v', e => by
    cases h1 : concA ρ first with
    | none => cases fn <;> simp [conc, h1] at e
    | some a =>
      cases h2 : concA ρ captured with
      | none => cases fn <;> simp [conc, h1, h2] at e
      | some b =>
        have g1 := concA_mono h h1
        have g2 := concA_mono h h2
        cases fn <;> first | (simp [conc, h1, h2] at e; done) | simpa [conc, h1, h2, g1, g2] using e
  | .iface t v, v', e => by
    cases h1 : conc ρ v with
    | none => simp [conc, h1] at e
    | some a => simpa [conc, h1, conc_mono h h1] using e
  | .agg cs, v', e => by
    cases h1 : concA ρ cs with
    | none => simp [conc, h1] at e
    | some a => simpa [conc, h1, concA_mono h h1] using e
  | .tuple cs, v', e => by
    cases h1 : concA ρ cs with
    | none => simp [conc, h1] at e
    | some a => simpa [conc, h1, concA_mono h h1] using e
  | .bool _, v', e => by simpa [conc] using e
  | .int _ _, v', e => by simpa [conc] using e
  | .float _ _, v', e => by simpa [conc] using e
  | .complex _ _ _, v', e => by simpa [conc] using e
  | .string _, v', e => by simpa [conc] using e
  | .pointer none, v', e => by simpa [conc] using e
  | .slice none _ _, v', e => by simpa [conc] using e
  | .map none, v', e => by simpa [conc] using e
  | .chan none, v', e => by simpa [conc] using e
  | .nilFunc, v', e => by simpa [conc] using e
  | .nilIface, v', e => by simpa [conc] using e
theorem concA_mono {ρ ρ' : Env} (h : ρ.le ρ') : ∀ {v v' : Array Value}, concA ρ v = some v' → concA ρ' v = some v'
  | ⟨l⟩, v', e => by
    cases h1 : concL ρ l with
    | none => simp [concA, h1] at e
    | some a => simpa [concA, h1, concL_mono h h1] using e
theorem concL_mono {ρ ρ' : Env} (h : ρ.le ρ') : ∀ {v v' : List Value}, concL ρ v = some v' → concL ρ' v = some v'
  | [], v', e => by simpa [concL] using e
  | v :: vs, v', e => by
    cases h1 : conc ρ v with
    | none => simp [concL, h1] at e
    | some a =>
      cases h2 : concL ρ vs with
      | none => simp [concL, h1, h2] at e
      | some b => simpa [concL, h1, h2, conc_mono h h1, concL_mono h h2] using e
end
mutual
def plain : Value → Bool
  | .pointer (some _) | .slice (some _) _ _ | .map (some _) | .chan (some _) => false
  | .func fn first captured => match fn with
    | .yield _ => false
    | _ => plainA first && plainA captured
  | .iface _ v => plain v
  | .agg cs => plainA cs
  | .tuple cs => plainA cs
  | _ => true
def plainA : Array Value → Bool
  | ⟨l⟩ => plainL l
def plainL : List Value → Bool
  | [] => true
  | v :: vs => plain v && plainL vs
end
mutual
theorem conc_plain (ρ : Env) : ∀ {v : Value}, plain v = true → conc ρ v = some v
  | .pointer (some _), e => by simp [plain] at e
  | .slice (some _) _ _, e => by simp [plain] at e
  | .map (some _), e => by simp [plain] at e
  | .chan (some _), e => by simp [plain] at e
  | .func fn first captured, e => by
    have h : plainA first = true ∧ plainA captured = true := by cases fn <;> simp [plain] at e <;> exact e
    cases fn <;> first | (simp [plain] at e; done) | simp [conc, concA_plain ρ h.1, concA_plain ρ h.2]
  | .iface _ v, e => by simp [conc, conc_plain ρ (v := v) (by simpa [plain] using e)]
  | .agg cs, e => by simp [conc, concA_plain ρ (v := cs) (by simpa [plain] using e)]
  | .tuple cs, e => by simp [conc, concA_plain ρ (v := cs) (by simpa [plain] using e)]
  | .bool _, _ => by simp [conc]
  | .int _ _, _ => by simp [conc]
  | .float _ _, _ => by simp [conc]
  | .complex _ _ _, _ => by simp [conc]
  | .string _, _ => by simp [conc]
  | .pointer none, _ => by simp [conc]
  | .slice none _ _, _ => by simp [conc]
  | .map none, _ => by simp [conc]
  | .chan none, _ => by simp [conc]
  | .nilFunc, _ => by simp [conc]
  | .nilIface, _ => by simp [conc]
theorem concA_plain (ρ : Env) : ∀ {v : Array Value}, plainA v = true → concA ρ v = some v
  | ⟨l⟩, e => by simp [concA, concL_plain ρ (v := l) (by simpa [plainA] using e)]
theorem concL_plain (ρ : Env) : ∀ {v : List Value}, plainL v = true → concL ρ v = some v
  | [], _ => by simp [concL]
  | v :: vs, e => by
    have h : plain v = true ∧ plainL vs = true := by simpa [plainL] using e
    simp [concL, conc_plain ρ h.1, concL_plain ρ h.2]
end
theorem concL_iff {ρ : Env} : ∀ {l l' : List Value}, concL ρ l = some l' ↔ l.length = l'.length ∧ ∀ (i : Nat) (v : Value), l[i]? = some v → ∃ v' : Value, l'[i]? = some v' ∧ conc ρ v = some v'
  | [], l' => by
    constructor
    · intro h; simp [concL] at h; subst h; simp
    · intro ⟨h, _⟩; cases l' <;> simp_all [concL]
  | v :: vs, l' => by
    constructor
    · intro h
      cases h1 : conc ρ v with
      | none => simp [concL, h1] at h
      | some a =>
        cases h2 : concL ρ vs with
        | none => simp [concL, h1, h2] at h
        | some b =>
          simp [concL, h1, h2] at h
          subst h
          obtain ⟨e, f⟩ := concL_iff.1 h2
          refine ⟨by simp [e], ?_⟩
          intro i x hx
          cases i with
          | zero => simp at hx; subst hx; exact ⟨a, by simp, h1⟩
          | succ i => simp at hx; simpa using f i x hx
    · intro ⟨h, f⟩
      cases l' with
      | nil => simp at h
      | cons a b =>
        obtain ⟨a', e1, e2⟩ := f 0 v (by simp)
        simp at e1
        subst e1
        have h2 : concL ρ vs = some b := concL_iff.2 ⟨by simpa using h, fun i x hx => by simpa using f (i + 1) x (by simpa using hx)⟩
        simp [concL, e2, h2]
theorem concL_length {ρ : Env} {l l' : List Value} (h : concL ρ l = some l') : l'.length = l.length := (concL_iff.1 h).1.symm
theorem concL_append {ρ : Env} {a a' b b' : List Value} (h : concL ρ a = some a') (k : concL ρ b = some b') : concL ρ (a ++ b) = some (a' ++ b') := by
  induction a generalizing a' with
  | nil => simp [concL] at h; subst h; simpa using k
  | cons v vs ih =>
    cases h1 : conc ρ v with
    | none => simp [concL, h1] at h
    | some x =>
      cases h2 : concL ρ vs with
      | none => simp [concL, h1, h2] at h
      | some y =>
        simp [concL, h1, h2] at h
        subst h
        simp [concL, h1, ih h2]
structure Es where
  n : Nat
  el : TypeId
inductive Blk where
  | cells (vals : T Value) (n : Nat) (esz : Es) (fam pos frz : Nat) (ro : Bool)
  | map (es : List MapEntry) (clock : Nat)
  | siter (s : ByteArray) (at_ : Nat)
  | dead
def Blk.live : Blk → Bool
  | .dead => false
  | _ => true
def Blk.ro : Blk → Bool
  | .cells _ _ _ _ _ _ r => r
  | _ => false
structure Heap where
  blks : T Blk
  fams : T (List Nat)
  next : Nat
noncomputable def Heap.members (H : Heap) (f : Nat) : List Nat := match H.fams.get f with
  | some l => l
  | none => [f]
def CellsAt (ρ : Env) (w : World) (l : Loc) (vals : T Value) (n : Nat) (esz : Es) (frz : Nat) (ro : Bool) : Prop :=
  ∃ arr el lo hi, w.heap[l.blk]? = some (.cells arr el (lo, hi)) ∧ l.sh + n + l.ext * esz.n ≤ arr.size ∧
    (∀ i, i < n → ∃ v v', vals.get i = some v ∧ conc ρ v = some v' ∧ arr[l.sh + i]? = some v') ∧
    (el = esz.el ∧ (ro = false → ∀ i, frz ≤ i → i < n + l.ext * esz.n → ¬ (lo ≤ l.sh + i ∧ l.sh + i < hi)))
inductive All2 {α β : Type} (R : α → β → Prop) : List α → List β → Prop where
  | nil : All2 R [] []
  | cons {a b l m} : R a b → All2 R l m → All2 R (a :: l) (b :: m)
def EntryAt (ρ : Env) (e e' : MapEntry) : Prop := e'.key = e.key ∧ plain e.key = true ∧ e'.born = e.born ∧ conc ρ e.val = some e'.val
def BlkAt (ρ : Env) (w : World) (l : Loc) : Blk → Prop
  | .cells vals n esz _ _ frz ro => CellsAt ρ w l vals n esz frz ro
  | .map es clock => ∃ es' : Array MapEntry, w.heap[l.blk]? = some (.map es' clock) ∧ All2 (EntryAt ρ) es es'.toList
  | .siter s p => w.heap[l.blk]? = some (.stringIter s p)
  | .dead => True
def Blk.beside (l1 l2 : Loc) : Blk → Blk → Prop
  | .cells _ n1 z1 f1 p1 _ _, .cells _ n2 z2 f2 p2 _ _ =>
    f1 = f2 ∧ ∀ i1 i2, i1 < n1 + l1.ext * z1.n → i2 < n2 + l2.ext * z2.n → l1.sh + i1 = l2.sh + i2 → p1 + i1 = p2 + i2
  | _, _ => False
structure Rep (ρ : Env) (H : Heap) (B : Nat) (w : World) : Prop where
  dom : ∀ b k, H.blks.get b = some k → k.live = true → ∃ l, ρ b = some l ∧ BlkAt ρ w l k
  inb : ∀ b l, ρ b = some l → l.blk < w.heap.size
  own : ∀ b k l, H.blks.get b = some k → k.live = true → ρ b = some l → (k.ro = true → l.blk < B) ∧ (k.ro = false → B ≤ l.blk)
  apart : ∀ b1 b2 k1 k2 l1 l2, b1 ≠ b2 → H.blks.get b1 = some k1 → H.blks.get b2 = some k2 → k1.live = true → k2.live = true → k1.ro = false → k2.ro = false →
    ρ b1 = some l1 → ρ b2 = some l2 → l1.blk = l2.blk → k1.beside l1 l2 k2
  mem : ∀ b vals n esz fam pos frz, H.blks.get b = some (.cells vals n esz fam pos frz false) → b ∈ H.members fam
  famn : ∀ f l, H.fams.get f = some l → ∃ k, ρ f = some k
  famd : ∀ b vals n esz fam pos frz ro, H.blks.get b = some (.cells vals n esz fam pos frz ro) → ∃ k, ρ fam = some k
  base : B ≤ w.heap.size
  root : ∀ b vals n esz pos frz ro l, H.blks.get b = some (.cells vals n esz b pos frz ro) → ρ b = some l → l.sh = 0
def Heap.noFam (H : Heap) (f : Nat) : Prop := ∀ b vals n esz pos frz, H.blks.get b ≠ some (.cells vals n esz f pos frz false)
structure Stp (x : Nat) (ρ : Env) (H : Heap) (w : World) (ρ' : Env) (H' : Heap) (w' : World) : Prop where
  le : ρ.le ρ'
  new : ∀ b l, ρ' b = some l → ρ b = none → (b = x ∨ H.next ≤ b) ∧ b < H'.next
  mono : H.next ≤ H'.next
  os : w'.os = w.os
  tape : w'.tape = w.tape
  output : w'.output = w.output
  size : w.heap.size ≤ w'.heap.size
  keep : ∀ c, c < w.heap.size → (∀ b k l, H.blks.get b = some k → k.live = true → k.ro = false → ρ b = some l → l.blk ≠ c) → w'.heap[c]? = w.heap[c]?
  own : ∀ b k l, H'.blks.get b = some k → k.live = true → k.ro = false → ρ' b = some l → l.blk < w.heap.size →
    ∃ b0 k0 l0, H.blks.get b0 = some k0 ∧ k0.live = true ∧ k0.ro = false ∧ ρ b0 = some l0 ∧ l0.blk = l.blk
  famk : ∀ f, f < H.next → f ≠ x → H.noFam f → H'.fams.get f = H.fams.get f ∧ H'.noFam f
  blk : ∀ b k, H'.blks.get b = some k → (∃ k0, H.blks.get b = some k0) ∨ ((b = x ∨ H.next ≤ b) ∧ b < H'.next)
theorem Stp.refl (x : Nat) (ρ : Env) (H : Heap) (w : World) : Stp x ρ H w ρ H w where
  le := ρ.le_refl
  new := fun b l h1 h2 => by rw [h1] at h2; cases h2
  mono := Nat.le_refl _
  os := rfl
  tape := rfl
  output := rfl
  size := Nat.le_refl _
  keep := fun _ _ _ => rfl
  own := fun b k l h1 h2 h3 h4 _ => ⟨b, k, l, h1, h2, h3, h4, rfl⟩
  famk := fun _ _ _ h => ⟨rfl, h⟩
  blk := fun b k h => .inl ⟨k, h⟩
theorem Stp.trans {x : Nat} {ρ ρ1 ρ2 : Env} {H H1 H2 : Heap} {w w1 w2 : World} (h : Stp x ρ H w ρ1 H1 w1) (k : Stp x ρ1 H1 w1 ρ2 H2 w2) : Stp x ρ H w ρ2 H2 w2 where
  le := Env.le_trans h.le k.le
  new := fun b l h1 h2 => by
    cases e : ρ1 b with
    | some l1 =>
      obtain ⟨h3, h4⟩ := h.new b l1 e h2
      exact ⟨h3, Nat.lt_of_lt_of_le h4 k.mono⟩
    | none =>
      obtain ⟨h3, h4⟩ := k.new b l h1 e
      refine ⟨?_, h4⟩
      rcases h3 with h3 | h3
      · exact .inl h3
      · exact .inr (Nat.le_trans h.mono h3)
  mono := Nat.le_trans h.mono k.mono
  os := k.os.trans h.os
  tape := k.tape.trans h.tape
  output := k.output.trans h.output
  size := Nat.le_trans h.size k.size
  keep := fun c hc hk => by
    rw [k.keep c (Nat.lt_of_lt_of_le hc h.size) ?_, h.keep c hc hk]
    intro b kk l g1 g2 g3 g4 g5
    obtain ⟨b0, k0, l0, a1, a2, a3, a4, a5⟩ := h.own b kk l g1 g2 g3 g4 (g5 ▸ hc)
    exact hk b0 k0 l0 a1 a2 a3 a4 (a5.trans g5)
  own := fun b kk l g1 g2 g3 g4 g5 => by
    obtain ⟨b1, k1, l1, a1, a2, a3, a4, a5⟩ := k.own b kk l g1 g2 g3 g4 (Nat.lt_of_lt_of_le g5 h.size)
    obtain ⟨b0, k0, l0, c1, c2, c3, c4, c5⟩ := h.own b1 k1 l1 a1 a2 a3 a4 (a5 ▸ g5)
    exact ⟨b0, k0, l0, c1, c2, c3, c4, c5.trans a5⟩
  famk := fun f h1 h2 h3 => by
    obtain ⟨e1, n1⟩ := h.famk f h1 h2 h3
    obtain ⟨e2, n2⟩ := k.famk f (Nat.lt_of_lt_of_le h1 h.mono) h2 n1
    exact ⟨e2.trans e1, n2⟩
  blk := fun b kk g => by
    rcases k.blk b kk g with ⟨k1, g1⟩ | ⟨g1 | g1, g2⟩
    · rcases h.blk b k1 g1 with g3 | ⟨g3, g4⟩
      · exact .inl g3
      · exact .inr ⟨g3, Nat.lt_of_lt_of_le g4 k.mono⟩
    · exact .inr ⟨.inl g1, g2⟩
    · exact .inr ⟨.inr (Nat.le_trans h.mono g1), g2⟩
theorem Stp.any {x y : Nat} {ρ ρ1 : Env} {H H1 : Heap} {w w1 : World} (h : Stp x ρ H w ρ1 H1 w1) (hx : H.next ≤ x) : Stp y ρ H w ρ1 H1 w1 where
  le := h.le
  new := fun b l h1 h2 => by
    obtain ⟨e, h3⟩ := h.new b l h1 h2
    refine ⟨?_, h3⟩
    rcases e with e | e
    · exact .inr (e ▸ hx)
    · exact .inr e
  mono := h.mono
  os := h.os
  tape := h.tape
  output := h.output
  size := h.size
  keep := h.keep
  own := h.own
  famk := fun f h1 _ h3 => h.famk f h1 (by omega) h3
  blk := fun b k g => by
    rcases h.blk b k g with g1 | ⟨g1 | g1, g2⟩
    · exact .inl g1
    · exact .inr ⟨.inr (g1 ▸ hx), g2⟩
    · exact .inr ⟨.inr g1, g2⟩
end Go.Ax

namespace Go.Ax
def isAggD : TypeDesc → Bool
  | .struct _ => true
  | .array _ _ => true
  | _ => false
structure TI where
  d : TypeDesc
  agg : Bool
  size : Nat
  bytes : Nat
  zero : Option (List Value)
  zval : Option Value
  methods : List Method
  eqok : Bool
inductive IC where
  | skip
  | region (id : Nat) (ops : List Oper) (fl : List Nat)
  | draw (id : Nat) (ops : List Oper) (fl : List Nat) (ms : Option (List Nat))
  | seq (a b : IC)
  | cond (c : Operand) (thn els : IC)
  | block (id : Nat) (body : IC)
  | loop (body : IC)
  | scope (body : IC)
  | exit (id : Nat)
  | ret
  | label (l : Nat)
  | bad (c : Code)
structure IFn where
  fn : Func
  body : IC
  np : Nat
inductive Xt where
  | fn (g : List Value → Option Value)
  | same
  | clone
structure Ctx where
  P : Program
  ng : Nat
  tys : T TI
  fns : T IFn
  ext : T Xt
inductive ORes where
  | val (v : Value) (H : Heap)
  | unit (H : Heap)
  | enter (f : FuncId) (args : List Value)
noncomputable def ob {α β : Type} (o : Option α) (k : α → Option β) : Option β := Option.rec (motive := fun _ => Option β) none k o
@[simp] theorem ob_none {α β : Type} (k : α → Option β) : ob none k = none := rfl
@[simp] theorem ob_some {α β : Type} (a : α) (k : α → Option β) : ob (some a) k = k a := rfl
theorem ob_eq_some {α β : Type} {o : Option α} {k : α → Option β} {b : β} (h : ob o k = some b) : ∃ a, o = some a ∧ k a = some b := by
  cases o with
  | none => cases h
  | some a => exact ⟨a, rfl, h⟩
noncomputable def og {α : Type} (b : Bool) (k : Option α) : Option α := Bool.rec (motive := fun _ => Option α) none k b
@[simp] theorem og_false {α : Type} (k : Option α) : og false k = none := rfl
@[simp] theorem og_true {α : Type} (k : Option α) : og true k = k := rfl
theorem og_eq_some {α : Type} {b : Bool} {k : Option α} {a : α} (h : og b k = some a) : b = true ∧ k = some a := by
  cases b with
  | false => cases h
  | true => exact ⟨rfl, h⟩
noncomputable def natF {β : Type} (n : Nat) (k : Nat → β) : β := Nat.rec (motive := fun _ => β) (k 0) (fun m _ => k (Nat.succ m)) n
theorem natF_eq {β : Type} (n : Nat) (k : Nat → β) : natF n k = k n := by cases n <;> rfl
inductive LV where
  | nil (ng : Nat)
  | cons (t : Nat) (v : Value) (r : LV)
noncomputable def LV.find (l : LV) (t : Nat) (d : Option Value) : Option Value :=
  LV.rec (motive := fun _ => Option Value) (fun _ => d) (fun t' v _ ih => Bool.rec (motive := fun _ => Option Value) ih (some v) (Nat.beq t t')) l
noncomputable def LV.ng (l : LV) : Nat := LV.rec (motive := fun _ => Nat) (fun n => n) (fun _ _ _ ih => ih) l
noncomputable def constE (v : Value) : Option Value := og (plain v) (some v)
noncomputable def lookTmp (t : Nat) (l : LV) (tm : T Value) : Option Value := l.find t (tm.get t)
noncomputable def look (x : Operand) : LV → T Value → Option Value :=
  Operand.rec (motive := fun _ => LV → T Value → Option Value) lookTmp (fun v _ _ => constE v) (fun g l _ => og (Nat.ble (Nat.succ g) l.ng) (some (.pointer (some ⟨g, 0, none⟩)))) (fun f _ _ => some (.func (.func f) #[] #[])) x
noncomputable def looks (l : LV) (tm : T Value) (xs : List Operand) : Option (List Value) :=
  List.rec (motive := fun _ => Option (List Value)) (some []) (fun x _ ih => ob (look x l tm) fun v => ob ih fun vs => some (v :: vs)) xs
def asPtr : Value → Option (Nat × Nat)
  | .pointer (some ⟨b, off, none⟩) => some (b, off)
  | _ => none
def asInt : Value → Option (IntKind × Int)
  | .int k n => some (k, n)
  | _ => none
def asNat : Value → Option Nat
  | .int _ (.ofNat n) => some n
  | _ => none
def asBool : Value → Option Bool
  | .bool b => some b
  | _ => none
def asStr : Value → Option (List UInt8)
  | .string ⟨⟨s⟩⟩ => some s
  | _ => none
def asAgg : Value → Option (List Value)
  | .agg ⟨l⟩ => some l
  | _ => none
def asTup : Value → Option (List Value)
  | .tuple ⟨l⟩ => some l
  | _ => none
def asMap : Value → Option (Option Nat)
  | .map r => some r
  | _ => none
inductive SV where
  | nil
  | mk (b off : Nat) (open_ : Bool) (len cap : Nat)
def asSlice : Value → Option SV
  | .slice none 0 0 => some .nil
  | .slice (some ⟨b, off, sp⟩) len cap => some (.mk b off (match sp with | none => false | some _ => true) len cap)
  | _ => none
def SV.val : SV → Value
  | .nil => .slice none 0 0
  | .mk b off o len cap => .slice (some ⟨b, off, (match o with | false => none | true => some 0)⟩) len cap
def asCells : Blk → Option (T Value × Nat)
  | .cells vals n _ _ _ _ _ => some (vals, n)
  | _ => none
def asEntries : Blk → Option (List MapEntry × Nat)
  | .map es c => some (es, c)
  | _ => none
noncomputable def rd1 (i : Nat) (p : T Value × Nat) : Option Value := og (Nat.ble (Nat.succ i) p.2) (p.1.get i)
noncomputable def rd (H : Heap) (b i : Nat) : Option Value := ob (H.blks.get b) fun k => ob (asCells k) (rd1 i)
noncomputable def rdN1 (i k : Nat) (p : T Value × Nat) : Option (List Value) := og (Nat.ble (Nat.add i k) p.2) (p.1.take i k)
noncomputable def rdN (H : Heap) (b i k : Nat) : Option (List Value) := ob (H.blks.get b) fun x => ob (asCells x) (rdN1 i k)
noncomputable def killL (ex lo hi : Nat) : List Nat → T Blk → T Blk
  | [], t => t
  | m :: ms, t => match Nat.beq m ex with
    | true => killL ex lo hi ms t
    | false => match t.get m with
      | some (.cells _ n _ _ pos _ _) => match Nat.ble hi pos with
        | true => killL ex lo hi ms t
        | false => match Nat.ble (Nat.add pos n) lo with
          | true => killL ex lo hi ms t
          | false => killL ex lo hi ms (t.set m (some .dead))
      | _ => killL ex lo hi ms t
noncomputable def Heap.kill (H : Heap) (fam ex lo hi : Nat) : T Blk := killL ex lo hi (H.members fam) H.blks
noncomputable def deadL : List Nat → T Blk → T Blk
  | [], t => t
  | m :: ms, t => match t.get m with
    | some _ => deadL ms (t.set m (some .dead))
    | none => deadL ms t
noncomputable def Heap.dead (H : Heap) (fam : Nat) : Heap := ⟨deadL (H.members fam) H.blks, H.fams, H.next⟩
def one : Value → Bool
  | .agg _ => false
  | .tuple _ => false
  | _ => true
noncomputable def ones (vs : List Value) : Bool :=
  List.rec (motive := fun _ => Bool) true (fun v _ ih => Bool.rec (motive := fun _ => Bool) false ih (one v)) vs
inductive CB where
  | mk (vals : T Value) (n : Nat) (esz : Es) (fam pos frz : Nat)
def asRw : Blk → Option CB
  | .cells vals n esz fam pos frz false => some (.mk vals n esz fam pos frz)
  | _ => none
def CB.blk : CB → Blk
  | .mk vals n esz fam pos frz => .cells vals n esz fam pos frz false
def CB.vals : CB → T Value
  | .mk vals _ _ _ _ _ => vals
def CB.n : CB → Nat
  | .mk _ n _ _ _ _ => n
def CB.esz : CB → Es
  | .mk _ _ esz _ _ _ => esz
def CB.fam : CB → Nat
  | .mk _ _ _ fam _ _ => fam
def CB.pos : CB → Nat
  | .mk _ _ _ _ pos _ => pos
def CB.frz : CB → Nat
  | .mk _ _ _ _ _ frz => frz
def CB.put (c : CB) (vals : T Value) : Blk := match c with
  | .mk _ n esz fam pos frz => .cells vals n esz fam pos frz false
noncomputable def wr2 (H : Heap) (b i : Nat) (vs : List Value) (c : CB) : Heap :=
  ⟨(H.kill c.fam b (Nat.add c.pos i) (Nat.add (Nat.add c.pos i) vs.length)).set b (some (c.put (c.vals.put i vs))), H.fams, H.next⟩
noncomputable def wr1 (H : Heap) (b i : Nat) (vs : List Value) (c : CB) : Option Heap :=
  og (Nat.ble (Nat.add i vs.length) c.n) (og (Nat.ble c.frz i) (og (ones vs) (some (wr2 H b i vs c))))
noncomputable def wrN (H : Heap) (b i : Nat) (vs : List Value) : Option Heap := ob (H.blks.get b) fun k => ob (asRw k) (wr1 H b i vs)
noncomputable def bump (id n : Nat) : Nat := Bool.rec (motive := fun _ => Nat) n (Nat.succ id) (Nat.ble n id)
noncomputable def newBlk (H : Heap) (id : Nat) (k : Blk) : Heap := natF (bump id H.next) fun n => ⟨H.blks.set id (some k), H.fams, n⟩
noncomputable def newCells (H : Heap) (id : Nat) (vs : List Value) (esz : Es) : Heap :=
  newBlk H id (.cells (T.ofList vs) vs.length esz id 0 0 false)
noncomputable def Ctx.und (C : Ctx) (t : TypeId) : Option TypeDesc := ob (C.tys.get t) fun i => some i.d
noncomputable def aggO (o : Option (List Value)) : Option Value := ob o fun l => some (.agg ⟨l⟩)
noncomputable def ld2 (H : Heap) (p : Nat × Nat) (i : TI) : Option Value :=
  Bool.rec (motive := fun _ => Option Value) (rd H p.1 p.2) (aggO (rdN H p.1 p.2 i.size)) i.agg
noncomputable def ldE (C : Ctx) (H : Heap) (t : TypeId) (a : Value) : Option Value := ob (asPtr a) fun p => ob (C.tys.get t) (ld2 H p)
def cellsL : Value → List Value
  | .agg ⟨l⟩ => l
  | v => [v]
noncomputable def st2 (H : Heap) (p : Nat × Nat) (v : Value) (i : TI) : Option Heap :=
  og (Nat.beq (cellsL v).length i.size) (wrN H p.1 p.2 (cellsL v))
noncomputable def stE (C : Ctx) (H : Heap) (t : TypeId) (a v : Value) : Option Heap := ob (asPtr a) fun p => ob (C.tys.get t) (st2 H p v)
noncomputable def spl : List Value → Nat → List Value → Option (List Value)
  | l, 0, [] => some l
  | [], _, _ => none
  | _ :: l, 0, v :: vs => match spl l 0 vs with
    | some r => some (v :: r)
    | none => none
  | x :: l, i + 1, vs => match spl l i vs with
    | some r => some (x :: r)
    | none => none
noncomputable def fillE (place : Nat → Option (Nat × Nat)) : List Value → List (Nat × Value) → Option (List Value)
  | cells, [] => some cells
  | cells, (i, v) :: rest => ob (place i) fun p => og (Nat.beq (cellsL v).length p.2) (ob (spl cells p.1 (cellsL v)) fun cells => fillE place cells rest)
noncomputable def lookParts (l : LV) (tm : T Value) : List (Nat × Operand) → Option (List (Nat × Value))
  | [] => some []
  | (i, x) :: xs => ob (look x l tm) fun v => ob (lookParts l tm xs) fun vs => some ((i, v) :: vs)
noncomputable def fieldPlaces (C : Ctx) : List Field → Option (List (Nat × Nat))
  | [] => some []
  | f :: fs => ob (C.tys.get f.type) fun i => ob (fieldPlaces C fs) fun ps => some ((f.offset, i.size) :: ps)
def asStruct : TypeDesc → Option (List Field)
  | .struct fs => some fs.toList
  | _ => none
def asArr : TypeDesc → Option (Nat × TypeId)
  | .array n e => some (n, e)
  | _ => none
def asSl : TypeDesc → Option TypeId
  | .slice e => some e
  | _ => none
def asMp : TypeDesc → Option (TypeId × TypeId)
  | .map k e => some (k, e)
  | _ => none
noncomputable def arrPlace (size n : Nat) : Option (Nat × Nat) := some (Nat.mul n size, size)
noncomputable def build1 (C : Ctx) (parts : List (Nat × Value)) (i : TI) : Option Value := ob i.zero fun z =>
  Option.rec (motive := fun _ => Option Value)
    (ob (asArr i.d) fun p => ob (C.tys.get p.2) fun j => aggO (fillE (arrPlace j.size) z parts))
    (fun fs => ob (fieldPlaces C fs) fun ps => aggO (fillE (fun n => ps[n]?) z parts)) (asStruct i.d)
noncomputable def buildE (C : Ctx) (t : TypeId) (parts : List (Nat × Value)) : Option Value := ob (C.tys.get t) (build1 C parts)
noncomputable def rep (z : List Value) (n : Nat) : List Value := Nat.rec (motive := fun _ => List Value) [] (fun _ ih => z ++ ih) n
noncomputable def buildSlice2 (H : Heap) (id len : Nat) (parts : List (Nat × Value)) (e : TypeId) (j : TI) : Option ORes := ob j.zero fun z =>
  og (Nat.ble (Nat.mul len j.size) 16777216) (og (Nat.beq z.length j.size) (ob (fillE (arrPlace j.size) (rep z len) parts) fun l =>
    some (.val (.slice (some ⟨id, 0, none⟩) len len) (newCells H id l ⟨j.size, e⟩))))
noncomputable def buildSliceE (C : Ctx) (H : Heap) (id : Nat) (t : TypeId) (len : Nat) (parts : List (Nat × Value)) : Option ORes :=
  ob (C.und t) fun d => ob (asSl d) fun e => ob (C.tys.get e) (buildSlice2 H id len parts e)
noncomputable def pureE {α : Type} (P : Program) : Sem α → Option α
  | .pure a => some a
  | .program k => pureE P (k P)
  | _ => none
noncomputable def plainE (P : Program) (s : Sem Value) : Option Value := ob (pureE P s) constE
def kno : IntKind → Nat
  | .i8 => 0 | .i16 => 1 | .i32 => 2 | .i64 => 3 | .u8 => 4 | .u16 => 5 | .u32 => 6 | .u64 => 7
def top : IntKind → Nat
  | .i8 => 127 | .i16 => 32767 | .i32 => 2147483647 | .i64 => 9223372036854775807 | .u8 => 255 | .u16 => 65535 | .u32 => 4294967295 | .u64 => 18446744073709551615
def width : IntKind → Nat
  | .i8 => 8 | .i16 => 16 | .i32 => 32 | .i64 => 64 | .u8 => 8 | .u16 => 16 | .u32 => 32 | .u64 => 64
abbrev IntOp := Program → IntKind → Int → Int → Option Value
noncomputable def genI (op : BinOp) : IntOp := fun P k x y => plainE P (binOp op 0 (.int k x) (.int k y))
noncomputable def onNats (op : BinOp) (f : IntKind → Nat → Nat → Option Value → Option Value) : IntOp := fun P k x y =>
  Int.rec (motive := fun _ => Option Value) (fun m => Int.rec (motive := fun _ => Option Value) (fun n => f k m n (genI op P k x y)) (fun _ => genI op P k x y) y) (fun _ => genI op P k x y) x
noncomputable def fitI (k : IntKind) (s : Nat) (d : Option Value) : Option Value :=
  Bool.rec (motive := fun _ => Option Value) d (natF s fun s => some (.int k (.ofNat s))) (Nat.ble s (top k))
noncomputable def yesI (s : Nat) : Option Value := natF s fun s => some (.bool (Nat.beq s 1))
noncomputable def someB (b : Bool) : Option Value := Bool.rec (motive := fun _ => Option Value) (some (.bool false)) (some (.bool true)) b
noncomputable def addI : IntOp := onNats .add fun k m n d => fitI k (Nat.add m n) d
noncomputable def mulI : IntOp := onNats .mul fun k m n d => fitI k (Nat.mul m n) d
noncomputable def subI : IntOp := onNats .sub fun k m n d => Bool.rec (motive := fun _ => Option Value) d (fitI k (Nat.sub m n) d) (Nat.ble n m)
noncomputable def quoI : IntOp := onNats .quo fun k m n d => Bool.rec (motive := fun _ => Option Value) d (fitI k (Nat.div m n) d) (Nat.ble 1 n)
noncomputable def remI : IntOp := onNats .rem fun k m n d => Bool.rec (motive := fun _ => Option Value) d (fitI k (Nat.mod m n) d) (Nat.ble 1 n)
noncomputable def eqlI : IntOp := onNats .eql fun _ m n _ => someB (Nat.beq m n)
noncomputable def neqI : IntOp := onNats .neq fun _ m n _ => someB (Bool.rec (motive := fun _ => Bool) true false (Nat.beq m n))
noncomputable def lssI : IntOp := onNats .lss fun _ m n _ => someB (Nat.ble (Nat.succ m) n)
noncomputable def leqI : IntOp := onNats .leq fun _ m n _ => someB (Nat.ble m n)
noncomputable def gtrI : IntOp := onNats .gtr fun _ m n _ => someB (Nat.ble (Nat.succ n) m)
noncomputable def geqI : IntOp := onNats .geq fun _ m n _ => someB (Nat.ble n m)
noncomputable def intOp (op : BinOp) : IntOp :=
  BinOp.rec (motive := fun _ => IntOp) addI subI mulI quoI remI (genI .and) (genI .or) (genI .xor) (genI .shl) (genI .shr) (genI .andNot) eqlI neqI lssI leqI gtrI geqI op
noncomputable def bytesEq : List UInt8 → List UInt8 → Bool
  | [], [] => true
  | a :: x, b :: y => match Nat.beq a.toNat b.toNat with
    | true => bytesEq x y
    | false => false
  | _, _ => false
noncomputable def bytesLt : List UInt8 → List UInt8 → Bool
  | _, [] => false
  | [], _ :: _ => true
  | a :: x, b :: y => match Nat.ble (Nat.succ a.toNat) b.toNat with
    | true => true
    | false => match Nat.beq a.toNat b.toNat with
      | true => bytesLt x y
      | false => false
noncomputable def strOpE (op : BinOp) (x y : List UInt8) : Option Value := match op with
  | .add => match Nat.ble (Nat.add x.length y.length) 9223372036854775807 with
    | true => some (.string ⟨⟨x ++ y⟩⟩)
    | false => none
  | .eql => someB (bytesEq x y)
  | .neq => someB (!bytesEq x y)
  | .lss => someB (bytesLt x y)
  | .leq => someB (bytesLt x y || bytesEq x y)
  | .gtr => someB (!(bytesLt x y || bytesEq x y))
  | .geq => someB (!bytesLt x y)
  | _ => none
noncomputable def eqScalar : Value → Value → Option Bool
  | .int k x, .int k' y => match Nat.beq (kno k) (kno k') with
    | true => some (match x, y with
      | .ofNat m, .ofNat n => Nat.beq m n
      | .negSucc m, .negSucc n => Nat.beq m n
      | _, _ => false)
    | false => none
  | .bool x, .bool y => some (match x with | true => y | false => !y)
  | .string ⟨⟨x⟩⟩, .string ⟨⟨y⟩⟩ => some (bytesEq x y)
  | _, _ => none
def scalarD : TypeDesc → Value → Bool
  | .bool, .bool _ => true
  | .int _, .int _ _ => true
  | .string, .string _ => true
  | _, _ => false
noncomputable def eqScalars (d : TypeDesc) : List Value → List Value → Option Bool
  | [], [] => some true
  | x :: xs, y :: ys => match scalarD d x with
    | false => none
    | true => match eqScalar x y with
      | some true => eqScalars d xs ys
      | some false => some false
      | none => none
  | _, _ => none
noncomputable def eqFields (C : Ctx) : List Field → Nat → List Value → List Value → Option Bool
  | [], _, [], [] => some true
  | f :: fs, off, x :: xs, y :: ys => match C.tys.get f.type with
    | none => none
    | some i => match Nat.beq f.offset off with
      | false => none
      | true => match decide (f.name = "_") with
        | true => none
        | false => match scalarD i.d x with
          | false => none
          | true => match eqScalar x y with
            | some true => eqFields C fs (Nat.succ off) xs ys
            | some false => some false
            | none => none
  | _, _, _, _ => none
noncomputable def eqAgg (C : Ctx) (t : TypeId) (xs ys : List Value) : Option Bool := ob (C.tys.get t) fun i => og i.eqok (match i.d with
  | .array n e => ob (C.tys.get e) fun j => og (Nat.beq j.size 1) (og (Nat.beq xs.length n) (og (Nat.beq ys.length n) (eqScalars j.d xs ys)))
  | .struct fs => eqFields C fs.toList 0 xs ys
  | _ => none)
noncomputable def eqE (C : Ctx) (t : TypeId) (a b : Value) : Option Bool := match C.und t with
  | none => none
  | some d => match d, a, b with
    | .bool, .bool x, .bool y => some (match x with | true => y | false => !y)
    | .pointer _, .pointer none, .pointer y => some y.isNone
    | .pointer _, .pointer (some _), .pointer none => some false
    | .pointer e, .pointer (some ⟨b, o, none⟩), .pointer (some ⟨b', o', none⟩) => ob (C.tys.get e) fun j => og (Nat.beq b b') (og (Nat.ble 1 j.size) (some (Nat.beq o o')))
    | .slice _, .slice none _ _, .slice y _ _ => some y.isNone
    | .slice _, .slice (some _) _ _, .slice none _ _ => some false
    | .map _ _, .map none, .map y => some y.isNone
    | .map _ _, .map (some _), .map none => some false
    | .func .., .nilFunc, .nilFunc => some true
    | .func .., .nilFunc, .func .. => some false
    | .func .., .func .., .nilFunc => some false
    | .interface _, .nilIface, .iface _ _ => some false
    | .interface _, .iface _ _, .nilIface => some false
    | .array .., .agg ⟨xs⟩, .agg ⟨ys⟩ => eqAgg C t xs ys
    | .struct _, .agg ⟨xs⟩, .agg ⟨ys⟩ => eqAgg C t xs ys
    | _, _, _ => none
def isShift : BinOp → Bool
  | .shl => true
  | .shr => true
  | _ => false
noncomputable def binCold (C : Ctx) (op : BinOp) (t : TypeId) (a b : Value) : Option Value := match a with
  | .string ⟨⟨x⟩⟩ => match b with
    | .string ⟨⟨y⟩⟩ => strOpE op x y
    | _ => none
  | .float _ _ => og (plain b) (plainE C.P (binOp op t a b))
  | .complex _ _ _ => none
  | .int _ _ => none
  | _ => match op with
    | .eql => ob (eqE C t a b) fun r => some (.bool r)
    | .neq => ob (eqE C t a b) fun r => some (.bool (!r))
    | _ => none
noncomputable def binInt (C : Ctx) (op : BinOp) (p q : IntKind × Int) : Option Value :=
  Bool.rec (motive := fun _ => Option Value) (og (isShift op) (plainE C.P (binOp op 0 (.int p.1 p.2) (.int q.1 q.2)))) (intOp op C.P p.1 p.2 q.2) (Nat.beq (kno p.1) (kno q.1))
noncomputable def binE (C : Ctx) (op : BinOp) (t : TypeId) (a b : Value) : Option Value :=
  Option.rec (motive := fun _ => Option Value) (binCold C op t a b) (fun p => ob (asInt b) (binInt C op p)) (asInt a)
noncomputable def intsOf : List Value → Option (List UInt8)
  | [] => some []
  | .int .u8 n :: vs => match intsOf vs with
    | some r => some (UInt8.ofNat n.toNat :: r)
    | none => none
  | _ => none
noncomputable def bytesOf : List UInt8 → List Value
  | [] => []
  | b :: bs => .int .u8 (.ofNat b.toNat) :: bytesOf bs
noncomputable def convI (k : IntKind) (n : Int) : Option Value :=
  Int.rec (motive := fun _ => Option Value) (fun n => fitI k n (some (.int k (k.wrap (.ofNat n))))) (fun n => some (.int k (k.wrap (.negSucc n)))) n
noncomputable def toUnsafe (C : Ctx) (H : Heap) (t : TypeId) : Option Addr → Option ORes
  | none => some (.val (.pointer none) H)
  | some ⟨b, off, none⟩ => ob (C.tys.get t) fun i => og (Nat.ble 1 i.size) (ob (H.blks.get b) fun k => ob (asCells k) fun c => og (Nat.ble (Nat.succ off) c.2) (some (.val (.pointer (some ⟨b, off, none⟩)) H)))
  | _ => none
noncomputable def rooted (b : Nat) : Blk → Option (Nat × TypeId)
  | .cells _ n esz fam _ _ _ => og (Nat.beq fam b) (some (n, esz.el))
  | _ => none
noncomputable def ofUnsafe (C : Ctx) (H : Heap) (u : TypeId) : Option Addr → Option ORes
  | none => some (.val (.pointer none) H)
  | some ⟨b, off, none⟩ => ob (C.tys.get u) fun i => ob (H.blks.get b) fun k => ob (rooted b k) fun p => og (Nat.beq p.2 u) (og (Nat.ble 1 i.size) (og (Nat.beq (Nat.mod off i.size) 0) (og (Nat.ble (Nat.add off i.size) p.1)
      (some (.val (.pointer (some ⟨b, off, none⟩)) H)))))
  | _ => none
noncomputable def convE (C : Ctx) (H : Heap) (id : Nat) (src dst : TypeId) (x : Value) : Option ORes := match C.und src with
  | none => none
  | some s => match C.und dst with
    | none => none
    | some d => match d, x with
      | .int k, .int _ n => ob (convI k n) fun v => some (.val v H)
      | .string, .string s => some (.val (.string s) H)
      | .slice e, .string ⟨⟨bs⟩⟩ => match C.und e with
        | some (.int .u8) => some (.val (.slice (some ⟨id, 0, some 0⟩) bs.length bs.length) (newCells H id (bytesOf bs) ⟨1, e⟩))
        | _ => none
      | .string, .slice a len _ => match s with
        | .slice e => match C.und e with
          | some (.int .u8) => match a with
            | none => some (.val (.string ⟨⟨[]⟩⟩) H)
            | some ⟨b, off, _⟩ => ob (rdN H b off len) fun l => ob (intsOf l) fun bs => some (.val (.string ⟨⟨bs⟩⟩) H)
          | _ => none
        | _ => none
      | .unsafePointer, .pointer p => match s with
        | .pointer t => toUnsafe C H t p
        | _ => none
      | .pointer u, .pointer p => match s with
        | .unsafePointer => ofUnsafe C H u p
        | _ => none
      | _, _ => none
noncomputable def boundE (x : Value) (hi : Nat) : Option Nat := ob (asNat x) fun n => og (Nat.ble n hi) (some n)
noncomputable def boundO (d : Option Nat) (x : Option Value) (hi : Nat) : Option Nat := Option.rec (motive := fun _ => Option Nat) d (fun v => boundE v hi) x
noncomputable def boundsE (len cap : Nat) (lo hi mx : Option Value) : Option (Nat × Nat × Nat) :=
  ob (boundO (some cap) mx cap) fun m => ob (boundO (Option.rec (motive := fun _ => Option Nat) (some len) (fun _ => none) mx) hi m) fun h =>
    ob (boundO (some 0) lo h) fun l => some (l, h, m)
noncomputable def lookO (x : Option Operand) (l : LV) (tm : T Value) : Option (Option Value) :=
  Option.rec (motive := fun _ => Option (Option Value)) (some none) (fun x => ob (look x l tm) fun v => some (some v)) x
noncomputable def sliced (b off size : Nat) (o : Bool) (l h m : Nat) : Option Value :=
  match Nat.ble (Nat.succ l) m with
  | true => natF (Nat.add off (Nat.mul l size)) fun off => natF (Nat.sub h l) fun n => natF (Nat.sub m l) fun c =>
    some (.slice (some ⟨b, off, (match o with | false => none | true => some 0)⟩) n c)
  | false => match Nat.beq m l with
    | false => none
    | true => match o with
      | true => match Nat.beq l 0 with
        | true => some (.slice (some ⟨b, off, some 0⟩) h m)
        | false => none
      | false => some (.slice (some ⟨b, off, none⟩) (Nat.sub h l) 0)
noncomputable def sliceV (size : Nat) (lo hi mx : Option Value) : SV → Option Value
  | .nil => ob (boundsE 0 0 lo hi mx) fun _ => some (.slice none 0 0)
  | .mk b off o len cap => ob (boundsE len cap lo hi mx) fun p => sliced b off size (match mx with | none => o | some _ => false) p.1 p.2.1 p.2.2
noncomputable def sliceE (C : Ctx) (t : TypeId) (x : Value) (lo hi mx : Option Value) : Option Value := match C.und t with
  | some .string => match mx with
    | some _ => none
    | none => ob (asStr x) fun s => ob (boundsE s.length s.length lo hi none) fun p => some (.string ⟨⟨(s.drop p.1).take (Nat.sub p.2.1 p.1)⟩⟩)
  | some (.slice e) => ob (C.tys.get e) fun j => ob (asSlice x) fun s => sliceV j.size lo hi mx s
  | some (.array n e) => ob (C.tys.get e) fun j => ob (asPtr x) fun p => ob (boundsE n n lo hi mx) fun q => sliced p.1 p.2 j.size false q.1 q.2.1 q.2.2
  | _ => none
noncomputable def ptrE (b off : Nat) : Option Value := natF off fun o => some (.pointer (some ⟨b, o, none⟩))
noncomputable def ixSl (C : Ctx) (i : Nat) (e : TypeId) : SV → Option Value
  | .nil => none
  | .mk b off _ len _ => og (Nat.ble (Nat.succ i) len) (ob (C.tys.get e) fun j => ptrE b (Nat.add off (Nat.mul i j.size)))
noncomputable def ixArr (C : Ctx) (i : Nat) (x : Value) (p : Nat × TypeId) : Option Value :=
  ob (asPtr x) fun q => og (Nat.ble (Nat.succ i) p.1) (ob (C.tys.get p.2) fun j => ptrE q.1 (Nat.add q.2 (Nat.mul i j.size)))
noncomputable def ix1 (C : Ctx) (x : Value) (i : Nat) (d : TypeDesc) : Option Value :=
  Option.rec (motive := fun _ => Option Value) (ob (asArr d) (ixArr C i x)) (fun e => ob (asSlice x) (ixSl C i e)) (asSl d)
noncomputable def indexAddrE (C : Ctx) (t : TypeId) (x i : Value) : Option Value := ob (asNat i) fun i => ob (C.und t) (ix1 C x i)
noncomputable def fa1 (p : Nat × Nat) (f : Field) (j : TI) : Option Value := og (Nat.ble 1 j.size) (ptrE p.1 (Nat.add p.2 f.offset))
noncomputable def fieldAddrE (C : Ctx) (t : TypeId) (x : Value) (f : Nat) : Option Value :=
  ob (asPtr x) fun p => ob (C.und t) fun d => ob (asStruct d) fun fs => ob fs[f]? fun fd => ob (C.tys.get fd.type) (fa1 p fd)
noncomputable def partE (C : Ctx) (t : TypeId) (cs : List Value) (off : Nat) : Option Value :=
  ob (C.tys.get t) fun i => Bool.rec (motive := fun _ => Option Value) cs[off]? (some (.agg ⟨(cs.drop off).take i.size⟩)) i.agg
noncomputable def fieldE (C : Ctx) (t : TypeId) (x : Value) (f : Nat) : Option Value :=
  ob (asAgg x) fun cs => ob (C.und t) fun d => ob (asStruct d) fun fs => ob fs[f]? fun fd => partE C fd.type cs fd.offset
noncomputable def indexE (C : Ctx) (t : TypeId) (x i : Value) : Option Value := ob (asNat i) fun i =>
  Option.rec (motive := fun _ => Option Value)
    (ob (asAgg x) fun cs => ob (C.und t) fun d => ob (asArr d) fun p => og (Nat.ble (Nat.succ i) p.1) (ob (C.tys.get p.2) fun j => partE C p.2 cs (Nat.mul i j.size)))
    (fun s => ob (C.und t) fun d => match d with
      | .string => ob s[i]? fun b => natF b.toNat fun n => some (.int .u8 (.ofNat n))
      | _ => none) (asStr x)
noncomputable def makeSlice2 (H : Heap) (id l c : Nat) (e : TypeId) (j : TI) : Option ORes := ob j.zero fun z =>
  og (Nat.ble l c) (og (Nat.ble (Nat.mul c (Nat.succ j.bytes)) 1073741824) (og (Nat.beq z.length j.size)
    (some (.val (.slice (some ⟨id, 0, none⟩) l c) (newCells H id (rep z c) ⟨j.size, e⟩)))))
noncomputable def makeSliceE (C : Ctx) (H : Heap) (id : Nat) (t : TypeId) (len cap : Value) : Option ORes :=
  ob (C.und t) fun d => ob (asSl d) fun e => ob (C.tys.get e) fun j => ob (asNat len) fun l => ob (asNat cap) fun c => makeSlice2 H id l c e j
noncomputable def elemsE (H : Heap) (size : Nat) (x : Value) (n : Nat) : Option (List Value) := match x with
  | .slice none _ _ => match Nat.beq n 0 with
    | true => some []
    | false => none
  | .slice (some ⟨b, off, _⟩) _ _ => rdN H b off (Nat.mul n size)
  | .string ⟨⟨s⟩⟩ => some (bytesOf (s.take n))
  | _ => none
def lenE : Value → Option Nat
  | .slice _ n _ => some n
  | .string ⟨⟨s⟩⟩ => some s.length
  | _ => none
noncomputable def grown (H : Heap) (id k : Nat) (vs : List Value) (size : Nat) (e : TypeId) : Option ORes := some (.val (.slice (some ⟨id, 0, some 0⟩) k k) (newCells H id vs ⟨size, e⟩))
noncomputable def fits (n bytes : Nat) : Bool := Nat.ble (Nat.mul n (Nat.succ bytes)) 35184372088832
noncomputable def fork (H : Heap) (id off len k size : Nat) (e : TypeId) (old new : List Value) (c : CB) : Option ORes :=
  og (Nat.beq c.esz.n size) (og (Nat.beq c.esz.el e) (og (Nat.ble c.frz (Nat.add off (Nat.mul len size))) (og (ones new) (og (ones old) (natF (Nat.add c.pos off) fun pos => natF (bump id H.next) fun nx =>
    some (.val (.slice (some ⟨id, 0, some 0⟩) k k)
      ⟨(H.kill c.fam id (Nat.add pos (Nat.mul len size)) (Nat.add pos (Nat.mul k size))).set id
          (some (.cells (Bool.rec (motive := fun _ => T Value) (T.ofList (old ++ new)) (c.vals.put (Nat.mul len size) new) (Nat.beq off 0)) (Nat.mul k size) c.esz c.fam pos (Nat.sub c.frz off) false)),
        H.fams.set c.fam (some (id :: H.members c.fam)), nx⟩))))))
noncomputable def app3 (H : Heap) (id : Nat) (e : TypeId) (j : TI) (n : Nat) (new : List Value) : SV → Option ORes
  | .nil => match n with
    | 0 => some (.val (.slice none 0 0) H)
    | _ => og (fits n j.bytes) (og (ones new) (grown H id n new j.size e))
  | .mk b off o len cap => natF (Nat.add len n) fun k => match Nat.ble k cap with
    | true => match n with
      | 0 => some (.val ((SV.mk b off o len cap).val) H)
      | _ => ob (wrN H b (Nat.add off (Nat.mul len j.size)) new) fun H' => some (.val ((SV.mk b off o k cap).val) H')
    | false => og (fits k j.bytes) (ob (rdN H b off (Nat.mul len j.size)) fun old => match o with
      | false => og (ones new) (og (ones old) (grown H id k (old ++ new) j.size e))
      | true => ob (H.blks.get b) fun x => ob (asRw x) fun c => og (Nat.beq (Nat.add off (Nat.mul cap j.size)) c.n) (fork H id off len k j.size e old new c))
noncomputable def app2 (H : Heap) (id : Nat) (s x : Value) (e : TypeId) (j : TI) : Option ORes :=
  og (Nat.ble 1 j.size) (ob j.zero fun z => og (Nat.beq z.length j.size) (ob (lenE x) fun n => ob (elemsE H j.size x n) fun new => og (Nat.beq new.length (Nat.mul n j.size)) (ob (asSlice s) (app3 H id e j n new))))
def notInt : TypeDesc → Bool
  | .int _ => false
  | _ => true
noncomputable def appendE (C : Ctx) (H : Heap) (id : Nat) (st xt : TypeId) (s x : Value) : Option ORes :=
  ob (C.und st) fun d => ob (asSl d) fun e => ob (C.tys.get e) fun j => ob (C.und xt) fun xd => og (notInt xd) (app2 H id s x e j)
noncomputable def copyE (C : Ctx) (H : Heap) (dt : TypeId) (d s : Value) : Option ORes :=
  ob (C.und dt) fun td => ob (asSl td) fun e => ob (C.tys.get e) fun j => ob (lenE s) fun m => ob (asSlice d) fun x => match x with
    | .nil => some (.val (.int .i64 (.ofNat 0)) H)
    | .mk b off _ n _ => natF (Bool.rec (motive := fun _ => Nat) n m (Nat.ble m n)) fun k =>
      ob (elemsE H j.size s k) fun vs => og (Nat.beq vs.length (Nat.mul k j.size)) (ob (wrN H b off vs) fun H' => some (.val (.int .i64 (.ofNat k)) H'))
noncomputable def clearE (C : Ctx) (H : Heap) (t : TypeId) (x : Value) : Option Heap :=
  ob (C.und t) fun td => ob (asSl td) fun e => ob (C.tys.get e) fun j => ob j.zero fun z => og (Nat.beq z.length j.size) (ob (asSlice x) fun x => match x with
    | .nil => some H
    | .mk b off _ n _ => match n with
      | 0 => some H
      | n + 1 => wrN H b off (rep z (Nat.succ n)))
noncomputable def lenOpE (C : Ctx) (H : Heap) (t : TypeId) (x : Value) : Option Value := match x with
  | .slice _ n _ => ob (C.und t) fun d => ob (asSl d) fun _ => some (.int .i64 (.ofNat n))
  | .string ⟨⟨s⟩⟩ => match C.und t with
    | some .string => natF s.length fun n => some (.int .i64 (.ofNat n))
    | _ => none
  | .map none => ob (C.und t) fun d => ob (asMp d) fun _ => some (.int .i64 (.ofNat 0))
  | .map (some r) => ob (C.und t) fun d => ob (asMp d) fun _ => ob (H.blks.get r) fun k => ob (asEntries k) fun e => natF e.1.length fun n => some (.int .i64 (.ofNat n))
  | .agg _ => ob (C.und t) fun d => ob (asArr d) fun p => some (.int .i64 (.ofNat p.1))
  | .pointer _ => match C.und t with
    | some (.pointer a) => ob (C.und a) fun d => ob (asArr d) fun p => some (.int .i64 (.ofNat p.1))
    | some (.array n _) => some (.int .i64 (.ofNat n))
    | _ => none
  | _ => none
noncomputable def keyEq (C : Ctx) (t : TypeId) (a b : Value) : Option Bool := match a, b with
  | .agg ⟨xs⟩, .agg ⟨ys⟩ => eqAgg C t xs ys
  | a, b => ob (C.und t) fun d => og (scalarD d a) (eqScalar a b)
noncomputable def findE (C : Ctx) (t : TypeId) (k : Value) : List MapEntry → Nat → Option (Option (Nat × Value))
  | [], _ => some none
  | e :: es, i => match keyEq C t k e.key with
    | some true => some (some (i, e.val))
    | some false => findE C t k es (Nat.succ i)
    | none => none
noncomputable def setEntry (v : Value) : List MapEntry → Nat → List MapEntry
  | [], _ => []
  | e :: es, 0 => ⟨e.key, v, e.born⟩ :: es
  | e :: es, i + 1 => e :: setEntry v es i
noncomputable def keyOk (C : Ctx) (t : TypeId) (k : Value) : Bool := match keyEq C t k k with
  | some true => true
  | _ => false
noncomputable def okV (ok : Bool) (v : Value) (there : Bool) : Value := match ok with
  | true => .tuple ⟨[v, .bool there]⟩
  | false => v
noncomputable def entriesE (H : Heap) : Value → Option (List MapEntry)
  | .map none => some []
  | .map (some r) => ob (H.blks.get r) fun k => ob (asEntries k) fun e => some e.1
  | _ => none
noncomputable def lookupE (C : Ctx) (H : Heap) (t : TypeId) (x k : Value) (ok : Bool) : Option Value :=
  ob (C.und t) fun d => ob (asMp d) fun p => og (keyOk C p.1 k) (og (plain k) (ob (entriesE H x) fun es => ob (findE C p.1 k es 0) fun r => match r with
    | some q => some (okV ok q.2 true)
    | none => ob (C.tys.get p.2) fun j => ob j.zval fun z => some (okV ok z false)))
noncomputable def mapSetE (C : Ctx) (H : Heap) (t : TypeId) (m k v : Value) : Option Heap :=
  ob (C.und t) fun d => ob (asMp d) fun p => match m with
    | .map (some r) => ob (H.blks.get r) fun b => ob (asEntries b) fun e => og (keyOk C p.1 k) (og (plain k) (ob (findE C p.1 k e.1 0) fun q => match q with
      | some q => some ⟨H.blks.set r (some (.map (setEntry v e.1 q.1) e.2)), H.fams, H.next⟩
      | none => some ⟨H.blks.set r (some (.map (e.1 ++ [⟨k, v, e.2⟩]) (Nat.succ e.2))), H.fams, H.next⟩))
    | _ => none
noncomputable def dropEntry : List MapEntry → Nat → List MapEntry
  | [], _ => []
  | _ :: es, 0 => es
  | e :: es, i + 1 => e :: dropEntry es i
noncomputable def deleteE (C : Ctx) (H : Heap) (t : TypeId) (m k : Value) : Option Heap :=
  ob (C.und t) fun d => ob (asMp d) fun p => match m with
    | .map (some r) => ob (H.blks.get r) fun b => ob (asEntries b) fun e => og (keyOk C p.1 k) (og (plain k) (ob (findE C p.1 k e.1 0) fun q => match q with
      | some q => some ⟨H.blks.set r (some (.map (dropEntry e.1 q.1) e.2)), H.fams, H.next⟩
      | none => some ⟨H.blks.set r (some (.map e.1 e.2)), H.fams, H.next⟩))
    | _ => none
def only1 : List Value → Option Value
  | [x] => some x
  | _ => none
def asIMap : Value → Option (TypeId × Nat)
  | .iface t (.map (some r)) => some (t, r)
  | _ => none
noncomputable def xt (H : Heap) (id : Nat) (args : List Value) : Xt → Option ORes
  | .fn g => og (plainL args) (ob (g args) fun v => ob (constE v) fun v => some (.val v H))
  | .same => ob (only1 args) fun x => some (.val x H)
  | .clone => ob (only1 args) fun x => ob (asIMap x) fun p => ob (H.blks.get p.2) fun k => ob (asEntries k) fun e => some (.val (.iface p.1 (.map (some id))) (newBlk H id (.map e.1 e.2)))
noncomputable def extE (C : Ctx) (H : Heap) (id : Nat) (f : FuncId) (args : List Value) : Option ORes := ob (C.ext.get f) (xt H id args)
noncomputable def enterE (C : Ctx) (H : Heap) (id : Nat) (f : FuncId) (args : List Value) : Option ORes :=
  Option.rec (motive := fun _ => Option ORes) (extE C H id f args) (fun _ => some (.enter f args)) (C.fns.get f)
def asFunc : Value → Option (FuncId × List Value × List Value)
  | .func (.func f) first cap => some (f, first.toList, cap.toList)
  | _ => none
noncomputable def sliceDataE (H : Heap) (c : Nat) : Option Addr → Option ORes
  | none => some (.val (.pointer none) H)
  | some ⟨b, off, _⟩ => og (Nat.ble 1 c) (some (.val (.pointer (some ⟨b, off, none⟩)) H))
def asPt : TypeDesc → Option TypeId
  | .pointer e => some e
  | _ => none
noncomputable def stringE (C : Ctx) (H : Heap) (t : TypeId) (n : Nat) : Option Addr → Option ORes
  | none => og (Nat.beq n 0) (some (.val (.string ⟨⟨[]⟩⟩) H))
  | some ⟨b, off, none⟩ => match Nat.beq n 0 with
    | true => some (.val (.string ⟨⟨[]⟩⟩) H)
    | false => og (Nat.ble n 9223372036854775807) (ob (C.und t) fun d => ob (asPt d) fun u => ob (C.tys.get u) fun j => og (Nat.beq j.size 1) (ob (H.blks.get b) fun k => ob (asRw k) fun c => og (Nat.beq c.esz.el u)
        (ob (rdN H b off n) fun l => ob (intsOf l) fun bs => some (.val (.string ⟨⟨bs⟩⟩) (H.dead c.fam)))))
  | _ => none
noncomputable def builtinE (C : Ctx) (H : Heap) (id : Nat) (b : Builtin) (args : List Value) (ts : List TypeId) : Option ORes := match b, args, ts with
  | .len, [x], [t] => ob (lenOpE C H t x) fun v => some (.val v H)
  | .append, [s, x], [st, xt] => appendE C H id st xt s x
  | .copy, [d, s], dt :: _ => copyE C H dt d s
  | .delete, [m, k], t :: _ => ob (deleteE C H t m k) fun H => some (.val (.tuple ⟨[]⟩) H)
  | .clear, [x], t :: _ => ob (clearE C H t x) fun H => some (.val (.tuple ⟨[]⟩) H)
  | .unsafeSliceData, [.slice a _ c], _ => sliceDataE H c a
  | .unsafeString, [.pointer a, n], t :: _ => ob (asNat n) fun n => stringE C H t n a
  | .max, [.int k x, .int _ y], _ => some (.val (.int k (match decide (x < y) with | true => y | false => x)) H)
  | .min, [.int k x, .int _ y], _ => some (.val (.int k (match decide (y < x) with | true => y | false => x)) H)
  | _, _, _ => none
abbrev Fn1 := Ctx → LV → T Value → Nat → Heap → Option ORes
noncomputable def callV (x : Operand) (args : List Operand) : Fn1 := fun C l tm id H =>
  ob (looks l tm args) fun args => ob (look x l tm) fun f => ob (asFunc f) fun p => enterE C H id p.1 (p.2.1 ++ (args ++ p.2.2))
noncomputable def callB (b : Builtin) (args : List Operand) (ts : List TypeId) : Fn1 := fun C l tm id H =>
  ob (looks l tm args) fun args => builtinE C H id b args ts
noncomputable def badOp : Fn1 := fun _ _ _ _ _ => none
noncomputable def callE (c : Call) : Fn1 :=
  Callee.rec (motive := fun _ => List Operand → List TypeId → Fn1) (fun f args _ => callV f args) (fun _ _ _ _ => badOp) (fun b args ts => callB b args ts) c.callee c.args.toList c.argTypes.toList
noncomputable def box1 (H : Heap) (id : Nat) (t : TypeId) (vs : List Value) (size : Nat) : Option ORes :=
  og (Nat.beq vs.length size) (og (ones vs) (some (.val (.pointer (some ⟨id, 0, none⟩)) (newCells H id vs ⟨size, t⟩))))
noncomputable def allocE (C : Ctx) (H : Heap) (id : Nat) (t : TypeId) : Option ORes := ob (C.tys.get t) fun i => ob i.zero fun z => box1 H id t z i.size
noncomputable def boxE (C : Ctx) (H : Heap) (id : Nat) (t : TypeId) (v : Value) : Option ORes := ob (C.tys.get t) fun i => box1 H id t (cellsL v) i.size
noncomputable def unE (P : Program) (op : UnOp) (x : Value) : Option Value := match op, x with
  | .not, .bool b => someB (Bool.rec (motive := fun _ => Bool) true false b)
  | op, x => og (plain x) (plainE P (Op.unary op x))
noncomputable def wrap1 (H : Heap) (v : Option Value) : Option ORes := ob v fun v => some (.val v H)
noncomputable def wrap0 (H : Option Heap) : Option ORes := ob H fun H => some (.unit H)
noncomputable def opMove (x : Operand) : Fn1 := fun _ l tm _ H => wrap1 H (look x l tm)
noncomputable def pick1 (l : LV) (tm : T Value) (a b : Operand) (c : Bool) : Option Value := Bool.rec (motive := fun _ => Option Value) (look b l tm) (look a l tm) c
noncomputable def opPick (c a b : Operand) : Fn1 := fun _ l tm _ H => wrap1 H (ob (look c l tm) fun c => ob (asBool c) (pick1 l tm a b))
noncomputable def opAlloc (t : TypeId) : Fn1 := fun C _ _ id H => allocE C H id t
noncomputable def opBox (t : TypeId) (x : Operand) : Fn1 := fun C l tm id H => ob (look x l tm) (boxE C H id t)
noncomputable def opBuild (t : TypeId) (ps : Array (Nat × Operand)) : Fn1 := fun C l tm _ H => wrap1 H (ob (lookParts l tm ps.toList) (buildE C t))
noncomputable def opBuildSlice (t : TypeId) (n : Nat) (ps : Array (Nat × Operand)) : Fn1 := fun C l tm id H => ob (lookParts l tm ps.toList) (buildSliceE C H id t n)
noncomputable def opInsert (t : TypeId) (m k v : Operand) : Fn1 := fun C l tm _ H =>
  wrap0 (ob (look m l tm) fun m => ob (look k l tm) fun k => ob (look v l tm) fun v => mapSetE C H t m k v)
noncomputable def opLoad (t : TypeId) (a : Operand) : Fn1 := fun C l tm _ H => wrap1 H (ob (look a l tm) (ldE C H t))
noncomputable def opStore (t : TypeId) (a v : Operand) : Fn1 := fun C l tm _ H => wrap0 (ob (look a l tm) fun a => ob (look v l tm) (stE C H t a))
noncomputable def nc1 (v : Value) : Option Value := ob (asPtr v) fun _ => some v
noncomputable def opNilCheck (x : Operand) : Fn1 := fun _ l tm _ H => wrap1 H (ob (look x l tm) nc1)
noncomputable def opBin (op : BinOp) (t : TypeId) (x y : Operand) (_ : TypeId) : Fn1 := fun C l tm _ H =>
  wrap1 H (ob (look x l tm) fun x => ob (look y l tm) (binE C op t x))
noncomputable def opUn (op : UnOp) (_ : TypeId) (x : Operand) : Fn1 := fun C l tm _ H => wrap1 H (ob (look x l tm) (unE C.P op))
noncomputable def opConvert (s d : TypeId) (x : Operand) : Fn1 := fun C l tm id H => ob (look x l tm) (convE C H id s d)
def notIface : TypeDesc → Bool
  | .interface _ => false
  | _ => true
noncomputable def opMakeIface (t : TypeId) (x : Operand) : Fn1 := fun C l tm _ H => wrap1 H (ob (look x l tm) fun v => ob (C.und t) fun d => og (notIface d) (some (.iface t v)))
noncomputable def opMakeFunc (fn : Fn) (first captured : Array Operand) : Fn1 := fun _ l tm _ H => match fn with
  | .func f => wrap1 H (ob (looks l tm first.toList) fun a => ob (looks l tm captured.toList) fun b => some (.func (.func f) ⟨a⟩ ⟨b⟩))
  | _ => none
noncomputable def opMakeMap (_ : TypeId) (r : Option Operand) : Fn1 := fun _ _ _ id H => match r with
  | none => some (.val (.map (some id)) (newBlk H id (.map [] 0)))
  | some _ => none
noncomputable def opMakeSlice (t : TypeId) (n c : Operand) : Fn1 := fun C l tm id H => ob (look n l tm) fun n => ob (look c l tm) (makeSliceE C H id t n)
noncomputable def opSlice (t : TypeId) (x : Operand) (lo hi mx : Option Operand) : Fn1 := fun C l tm _ H =>
  wrap1 H (ob (look x l tm) fun x => ob (lookO lo l tm) fun lo => ob (lookO hi l tm) fun hi => ob (lookO mx l tm) fun mx => sliceE C t x lo hi mx)
noncomputable def opFieldAddr (t : TypeId) (x : Operand) (f : Nat) : Fn1 := fun C l tm _ H => wrap1 H (ob (look x l tm) fun x => fieldAddrE C t x f)
noncomputable def opField (t : TypeId) (x : Operand) (f : Nat) : Fn1 := fun C l tm _ H => wrap1 H (ob (look x l tm) fun x => fieldE C t x f)
noncomputable def opIndexAddr (t : TypeId) (x i : Operand) : Fn1 := fun C l tm _ H => wrap1 H (ob (look x l tm) fun x => ob (look i l tm) (indexAddrE C t x))
noncomputable def opIndex (t : TypeId) (x i : Operand) : Fn1 := fun C l tm _ H => wrap1 H (ob (look x l tm) fun x => ob (look i l tm) (indexE C t x))
noncomputable def opLookup (t : TypeId) (x k : Operand) (ok : Bool) : Fn1 := fun C l tm _ H =>
  wrap1 H (ob (look x l tm) fun x => ob (look k l tm) fun k => lookupE C H t x k ok)
noncomputable def opExtract (t : Operand) (i : Nat) : Fn1 := fun _ l tm _ H => wrap1 H (ob (look t l tm) fun t => ob (asTup t) fun vs => vs[i]?)
noncomputable def taNo (C : Ctx) (asserted : TypeId) (ok : Bool) : Option Value := og ok (ob (C.tys.get asserted) fun j => ob j.zval fun z => some (.tuple ⟨[z, .bool false]⟩))
noncomputable def ta1 (C : Ctx) (asserted : TypeId) (ok : Bool) : Value → Option Value
  | .iface t v => Bool.rec (motive := fun _ => Option Value) (taNo C asserted ok) (some (okV ok v true)) (Nat.beq t asserted)
  | .nilIface => taNo C asserted ok
  | _ => none
noncomputable def opAssert (x : Operand) (_ asserted : TypeId) (ok : Bool) : Fn1 := fun C l tm _ H => wrap1 H (ob (look x l tm) fun v => ob (C.und asserted) fun d => og (notIface d) (ta1 C asserted ok v))
noncomputable def opSel (o : Op) : Fn1 := Op.rec (motive := fun _ => Fn1)
  opMove opMove opPick opAlloc opBox opBuild opBuildSlice opInsert opLoad opStore
  (fun _ => badOp) (fun _ => badOp) opNilCheck opBin opUn opConvert (fun _ _ => badOp) opMakeIface opMakeFunc opMakeMap
  (fun _ _ => badOp) opMakeSlice opSlice opFieldAddr opField opIndexAddr opIndex opLookup opInsert (fun _ _ _ => badOp)
  (fun _ _ _ _ => badOp) (fun _ _ => badOp) (fun _ _ => badOp) (fun _ => badOp) opAssert opExtract callE (fun _ => badOp) (fun _ => badOp) (fun _ => badOp)
  (fun _ _ => badOp) (fun _ _ _ => badOp) (fun _ _ => badOp) o
inductive Ex where
  | normal
  | exit (id : Nat)
  | ret
inductive Res where
  | none
  | mk (e : Ex) (tm : T Value) (H : Heap)
inductive CRes where
  | none
  | ok (v : Value) (H : Heap)
noncomputable def putE (nt : Nat) (dst : Option Tmp) (v : Value) (l : LV) (k : LV → Res) : Res :=
  Option.rec (motive := fun _ => Res) (k l) (fun d => Bool.rec (motive := fun _ => Res) .none (k (.cons d v l)) (Nat.ble (Nat.succ d) nt)) dst
noncomputable def wantG (ops : List Oper) (l : LV) (tm : T Value) (g : Nat × Bool) : Option Bool :=
  ob ops[g.1]? fun p => ob p.dst fun d => ob (lookTmp d l tm) fun v => match v with
    | .bool b => some (match b with | true => g.2 | false => !g.2)
    | _ => some false
abbrev IH := Nat → IC → T Value → Heap → Res
noncomputable def flush (fl : List Nat) (l : LV) (tm : T Value) : T Value :=
  List.rec (motive := fun _ => T Value) tm (fun t _ ih => Option.rec (motive := fun _ => T Value) ih (fun v => ih.set t (some v)) (l.find t none)) fl
abbrev RK := LV → Heap → Res
noncomputable def onRes (call : FuncId → List Value → Heap → CRes) (nt : Nat) (dst : Option Tmp) (ih : RK) (l : LV) (H : Heap) (r : ORes) : Res :=
  ORes.rec (motive := fun _ => Res) (fun v H => putE nt dst v l fun l => ih l H) (fun H => putE nt dst undef l fun l => ih l H)
    (fun f args => CRes.rec (motive := fun _ => Res) .none (fun v H => putE nt dst v l fun l => ih l H) (call f args H)) r
noncomputable def or0 {α : Type} (o : Option α) (k : α → Res) : Res := Option.rec (motive := fun _ => Res) .none k o
noncomputable def regOp (C : Ctx) (call : FuncId → List Value → Heap → CRes) (nt : Nat) (tm : T Value) (o : Oper) (ih : RK) : RK := fun l H =>
  or0 (opSel o.op C l tm H.next H) (onRes call nt o.dst ih l H)
noncomputable def regG (C : Ctx) (call : FuncId → List Value → Heap → CRes) (nt : Nat) (ops : List Oper) (tm : T Value) (o : Oper) (ih : RK) (g : Nat × Bool) : RK := fun l H =>
  or0 (wantG ops l tm g) fun b => Bool.rec (motive := fun _ => Res) (putE nt o.dst undef l fun l => ih l H) (regOp C call nt tm o ih l H) b
noncomputable def regS (C : Ctx) (call : FuncId → List Value → Heap → CRes) (nt : Nat) (ops : List Oper) (fl : List Nat) (tm : T Value) (rest : List Oper) : RK :=
  List.rec (motive := fun _ => RK) (fun l H => .mk .normal (flush fl l tm) H)
    (fun o _ ih => Option.rec (motive := fun _ => RK) (regOp C call nt tm o ih) (regG C call nt ops tm o ih) o.guard) rest
noncomputable def resultE (C : Ctx) (tm : T Value) (H : Heap) : ResultVar → Option Value
  | .tmp t => tm.get t
  | .cell a t => ob (tm.get a) (ldE C H t)
noncomputable def resultsE (C : Ctx) (tm : T Value) (H : Heap) : List ResultVar → Option (List Value)
  | [] => some []
  | r :: rs => ob (resultE C tm H r) fun v => ob (resultsE C tm H rs) fun vs => some (v :: vs)
noncomputable def leaveV : List Value → Value
  | [v] => v
  | vs => .tuple ⟨vs⟩
noncomputable def leaveE (C : Ctx) (fn : Func) (tm : T Value) (H : Heap) : CRes :=
  Option.rec (motive := fun _ => CRes) .none (fun vs => .ok (leaveV vs) H) (resultsE C tm H fn.results.toList)
noncomputable def leaveR (C : Ctx) (fn : Func) (r : Res) : CRes := match r with
  | .mk .normal tm H => leaveE C fn tm H
  | .mk .ret tm H => leaveE C fn tm H
  | _ => .none
noncomputable def callF (C : Ctx) (ih : IH) (args : List Value) (H : Heap) (f : IFn) : CRes :=
  Bool.rec (motive := fun _ => CRes) .none (Bool.rec (motive := fun _ => CRes) .none (leaveR C f.fn (ih f.fn.ntmps f.body (T.ofList args) H)) (Nat.ble args.length f.fn.ntmps)) (Nat.ble args.length f.np)
noncomputable def callC (C : Ctx) (ih : IH) (f : FuncId) (args : List Value) (H : Heap) : CRes :=
  Option.rec (motive := fun _ => CRes) .none (callF C ih args H) (C.fns.get f)
abbrev SF := Ctx → IH → Nat → T Value → Heap → Res
noncomputable def sSkip : SF := fun _ _ _ tm H => .mk .normal tm H
noncomputable def sRegion (_ : Nat) (ops : List Oper) (fl : List Nat) : SF := fun C ih nt tm H => regS C (callC C ih) nt ops fl tm ops (.nil C.ng) H
noncomputable def bitOf (m a : Nat) : Bool := Nat.beq (Nat.land (Nat.shiftRight m a) 1) 1
mutual
noncomputable def vEq : Value → Value → Bool
  | .bool x, .bool y => (match x with | true => y | false => !y)
  | .int k x, .int k' y => (match Nat.beq (kno k) (kno k') with
    | true => (match x, y with
      | .ofNat m, .ofNat n => Nat.beq m n
      | .negSucc m, .negSucc n => Nat.beq m n
      | _, _ => false)
    | false => false)
  | .string ⟨⟨x⟩⟩, .string ⟨⟨y⟩⟩ => bytesEq x y
  | .pointer none, .pointer none => true
  | .pointer (some ⟨b, o, none⟩), .pointer (some ⟨b', o', none⟩) => Nat.beq b b' && Nat.beq o o'
  | .slice none l c, .slice none l' c' => Nat.beq l l' && Nat.beq c c'
  | .slice (some ⟨b, o, none⟩) l c, .slice (some ⟨b', o', none⟩) l' c' => Nat.beq b b' && Nat.beq o o' && Nat.beq l l' && Nat.beq c c'
  | .slice (some ⟨b, o, some p⟩) l c, .slice (some ⟨b', o', some p'⟩) l' c' => Nat.beq b b' && Nat.beq o o' && Nat.beq l l' && Nat.beq c c' && Nat.beq p p'
  | .map none, .map none => true
  | .map (some r), .map (some r') => Nat.beq r r'
  | .nilFunc, .nilFunc => true
  | .nilIface, .nilIface => true
  | .func (.func f) ⟨a⟩ ⟨b⟩, .func (.func f') ⟨a'⟩ ⟨b'⟩ => Nat.beq f f' && vEqL a a' && vEqL b b'
  | .iface t v, .iface t' v' => Nat.beq t t' && vEq v v'
  | .agg ⟨a⟩, .agg ⟨b⟩ => vEqL a b
  | .tuple ⟨a⟩, .tuple ⟨b⟩ => vEqL a b
  | _, _ => false
noncomputable def vEqL : List Value → List Value → Bool
  | [], [] => true
  | x :: xs, y :: ys => (match vEq x y with
    | true => vEqL xs ys
    | false => false)
  | _, _ => false
end
noncomputable def isRd (C : Ctx) : Op → Bool
  | .load _ _ => true
  | .lookup _ _ _ _ => true
  | .convert _ d _ => (match C.und d with
    | some .string => true
    | _ => false)
  | .call c => (match c.callee with
    | .builtin .len => true
    | _ => false)
  | _ => false
def asVal : ORes → Option Value
  | .val v _ => some v
  | _ => none
noncomputable def rdE (C : Ctx) (tm : T Value) (o : Op) (l : LV) (H : Heap) : Option Value := ob (opSel o C l tm 0 H) asVal
noncomputable def layB (base A m : Nat) (p : Nat × Blk) (ih : T Blk) : T Blk :=
  Bool.rec (motive := fun _ => T Blk) ih (Bool.rec (motive := fun _ => T Blk) (ih.set (Nat.add base p.1) (some p.2)) ih (bitOf A p.1)) (bitOf m p.1)
noncomputable def layD (base : Nat) (K : Heap) (A m : Nat) (al : List (Nat × Blk)) : Heap :=
  ⟨List.rec (motive := fun _ => T Blk) K.blks (fun p _ ih => layB base A m p ih) al, K.fams, K.next⟩
structure Hist where
  i : Nat
  K : Heap
  A : Nat
structure Rdd where
  i : Nat
  o : Op
  l : LV
  m : Nat
  v : Value
noncomputable def isV (v : Value) (o : Option Value) : Bool := Option.rec (motive := fun _ => Bool) false (vEq v) o
noncomputable def backOk (C : Ctx) (tm : T Value) (base : Nat) (al : List (Nat × Blk)) (o : Op) (l : LV) (m : Nat) (v : Value) (hs : List Hist) : Bool :=
  List.rec (motive := fun _ => Bool) true (fun h _ ih => Bool.rec (motive := fun _ => Bool)
    (Bool.rec (motive := fun _ => Bool) false ih (isV v (rdE C tm o l (layD base h.K h.A m al)))) true (bitOf m h.i)) hs
noncomputable def openRds (C : Ctx) (tm : T Value) (base : Nat) (al : List (Nat × Blk)) (m : Nat) (K : Heap) (A : Nat) (rs : List Rdd) : Option (List Rdd) :=
  List.rec (motive := fun _ => Option (List Rdd)) (some []) (fun r _ ih => Bool.rec (motive := fun _ => Option (List Rdd))
    (og (isV r.v (rdE C tm r.o r.l (layD base K A r.m al))) (ob ih fun rs => some (r :: rs))) ih (bitOf m r.i)) rs
abbrev DK := LV → Heap → Nat → List (Nat × Blk) → List Hist → List Rdd → Res
noncomputable def addAl (i : Nat) (b : Option Blk) (al : List (Nat × Blk)) : List (Nat × Blk) := Option.rec (motive := fun _ => List (Nat × Blk)) al (fun b => (i, b) :: al) b
noncomputable def stepD (C : Ctx) (nt : Nat) (tm : T Value) (base : Nat) (dst : Option Tmp) (i m : Nat) (ih : DK) (l : LV) (K : Heap) (A : Nat) (al : List (Nat × Blk)) (hs : List Hist) (rs : List Rdd) (v : Value) (K' : Heap) : Res :=
  natF (Nat.lor A m) fun A' => or0 (openRds C tm base al m K' A' rs) fun rs => putE nt dst v l fun l => ih l K' A' al (⟨i, K, A⟩ :: hs) rs
noncomputable def spineD (C : Ctx) (call : FuncId → List Value → Heap → CRes) (nt : Nat) (tm : T Value) (base : Nat) (o : Oper) (i m : Nat) (ih : DK) : DK := fun l K A al hs rs =>
  or0 (opSel o.op C l tm (Nat.add base i) (layD base K A m al)) fun r =>
    ORes.rec (motive := fun _ => Res) (fun v H => stepD C nt tm base o.dst i m ih l K A al hs rs v H) (fun H => stepD C nt tm base o.dst i m ih l K A al hs rs undef H)
      (fun f args => CRes.rec (motive := fun _ => Res) .none (fun v H => stepD C nt tm base o.dst i m ih l K A al hs rs v H) (call f args (layD base K A m al))) r
noncomputable def chainOk (m : Nat) (hs : List Hist) : Bool := List.rec (motive := fun _ => Bool) true (fun h _ _ => bitOf m h.i) hs
noncomputable def readD (C : Ctx) (nt : Nat) (tm : T Value) (base : Nat) (o : Oper) (i m : Nat) (ih : DK) : DK := fun l K A al hs rs =>
  or0 (rdE C tm o.op l (layD base K A m al)) fun v => Bool.rec (motive := fun _ => Res) .none
    (putE nt o.dst v l fun l' => ih l' K A al hs (⟨i, o.op, l, m, v⟩ :: rs)) (backOk C tm base al o.op l m v hs)
noncomputable def heapD (C : Ctx) (call : FuncId → List Value → Heap → CRes) (nt : Nat) (tm : T Value) (base : Nat) (o : Oper) (i m : Nat) (ih : DK) : DK := fun l K A al hs rs =>
  Bool.rec (motive := fun _ => Res) (Bool.rec (motive := fun _ => Res) .none (spineD C call nt tm base o i m ih l K A al hs rs) (chainOk m hs)) (readD C nt tm base o i m ih l K A al hs rs) (isRd C o.op)
noncomputable def noMem (base n : Nat) : Heap := ⟨.nil, .nil, Nat.add base n⟩
def waits (id : Nat) : Option Blk → Bool
  | none => true
  | some (.cells _ _ _ fam _ _ ro) => Nat.beq fam id && !ro
  | some (.map _ _) => true
  | some (.siter _ _) => true
  | some .dead => false
noncomputable def floatD (nt : Nat) (base n : Nat) (dst : Option Tmp) (i : Nat) (ih : DK) (els : Res) (l : LV) (K : Heap) (A : Nat) (al : List (Nat × Blk)) (hs : List Hist) (rs : List Rdd) (r : ORes) : Res :=
  ORes.rec (motive := fun _ => Res) (fun v E => Bool.rec (motive := fun _ => Res) .none (putE nt dst v l fun l => ih l K A (addAl i (E.blks.get (Nat.add base i)) al) hs rs) (Bool.rec (motive := fun _ => Bool) false (waits (Nat.add base i) (E.blks.get (Nat.add base i))) (Nat.ble E.next (Nat.add base n))))
    (fun _ => els) (fun _ _ => els) r
noncomputable def drawOp (C : Ctx) (call : FuncId → List Value → Heap → CRes) (nt : Nat) (tm : T Value) (base n : Nat) (o : Oper) (i m : Nat) (ih : DK) : DK := fun l K A al hs rs =>
  Option.rec (motive := fun _ => Res) (heapD C call nt tm base o i m ih l K A al hs rs) (floatD nt base n o.dst i ih (heapD C call nt tm base o i m ih l K A al hs rs) l K A al hs rs) (opSel o.op C l tm (Nat.add base i) (noMem base n))
noncomputable def drawG (C : Ctx) (call : FuncId → List Value → Heap → CRes) (nt : Nat) (ops : List Oper) (tm : T Value) (base n : Nat) (o : Oper) (i m : Nat) (ih : DK) (g : Nat × Bool) : DK := fun l K A al hs rs =>
  or0 (wantG ops l tm g) fun b => Bool.rec (motive := fun _ => Res) (putE nt o.dst undef l fun l => ih l K A al hs rs) (drawOp C call nt tm base n o i m ih l K A al hs rs) b
noncomputable def drawS (C : Ctx) (call : FuncId → List Value → Heap → CRes) (nt : Nat) (ops : List Oper) (fl : List Nat) (tm : T Value) (base n : Nat) (rest : List Oper) : Nat → List Nat → DK :=
  List.rec (motive := fun _ => Nat → List Nat → DK) (fun _ _ l K A al _ _ => .mk .normal (flush fl l tm) (layD base K A (Nat.sub (Nat.shiftLeft 1 n) 1) al))
    (fun o _ ih i ms => List.rec (motive := fun _ => DK) (fun _ _ _ _ _ _ => .none) (fun m ms _ => natF (Nat.succ i) fun i' =>
      Option.rec (motive := fun _ => DK) (drawOp C call nt tm base n o i m (ih i' ms)) (drawG C call nt ops tm base n o i m (ih i' ms)) o.guard) ms) rest
noncomputable def sDraw (_ : Nat) (ops : List Oper) (fl : List Nat) (ms : Option (List Nat)) : SF := fun C ih nt tm H =>
  or0 ms fun ms => natF ops.length fun n => drawS C (callC C ih) nt ops fl tm H.next n ops 0 ms (.nil C.ng) ⟨H.blks, H.fams, Nat.add H.next n⟩ 0 [] [] []
noncomputable def sSeq (a b : IC) (_ _ : SF) : SF := fun _ ih nt tm H => match ih nt a tm H with
  | .mk .normal tm H => ih nt b tm H
  | r => r
noncomputable def sCond (c : Operand) (a b : IC) (_ _ : SF) : SF := fun C ih nt tm H =>
  or0 (ob (look c (.nil C.ng) tm) asBool) fun t => ih nt (Bool.rec (motive := fun _ => IC) b a t) tm H
noncomputable def sBlock (id : Nat) (b : IC) (_ : SF) : SF := fun _ ih nt tm H => match ih nt b tm H with
  | .mk (.exit i) tm H => match Nat.beq i id with
    | true => .mk .normal tm H
    | false => .mk (.exit i) tm H
  | r => r
noncomputable def sLoop (b : IC) (_ : SF) : SF := fun _ ih nt tm H => match ih nt b tm H with
  | .mk .normal tm H => ih nt (.loop b) tm H
  | r => r
noncomputable def sScope (b : IC) (_ : SF) : SF := fun _ ih nt tm H => ih nt b tm H
noncomputable def sExit (id : Nat) : SF := fun _ _ _ tm H => .mk (.exit id) tm H
noncomputable def sRet : SF := fun _ _ _ tm H => .mk .ret tm H
noncomputable def sBad : SF := fun _ _ _ _ _ => .none
noncomputable def step (C : Ctx) (ih : IH) : IH := fun nt c tm H =>
  IC.rec (motive := fun _ => SF) sSkip sRegion sDraw sSeq sCond sBlock sLoop sScope sExit sRet (fun _ => sSkip) (fun _ => sBad) c C ih nt tm H
noncomputable def go (C : Ctx) (n : Nat) : IH := Nat.rec (motive := fun _ => IH) (fun _ _ _ _ => .none) (fun _ ih => step C ih) n
noncomputable def callG (C : Ctx) (n : Nat) (f : FuncId) (args : List Value) (H : Heap) : CRes := callC C (go C n) f args H
def tmpsOf (xs : List Operand) : List Nat := xs.filterMap fun | .tmp t => some t | _ => none
noncomputable def useRead (own : T Unit) (u : T Unit) : List Nat → T Unit
  | [] => u
  | t :: ts => match own.get t with
    | some _ => useRead own u ts
    | none => useRead own (u.set t (some ())) ts
def guardTmp (ops : List Oper) (o : Oper) : List Nat := match o.guard with
  | none => []
  | some (j, _) => match ops[j]? with
    | some p => p.dst.toList
    | none => []
noncomputable def useOps (ops : List Oper) : List Oper → T Unit → T Unit → T Unit
  | [], _, u => u
  | o :: os, own, u => useOps ops os (match o.dst with | some d => own.set d (some ()) | none => own) (useRead own u (tmpsOf o.op.operands.toList ++ guardTmp ops o))
noncomputable def useC : Code → T Unit → T Unit
  | .region _ ops _, u => useOps ops.toList ops.toList .nil u
  | .seq a b, u => useC b (useC a u)
  | .cond c a b, u => useC b (useC a (useRead .nil u (tmpsOf [c])))
  | .block _ b, u => useC b u
  | .loop b, u => useC b u
  | .scope b, u => useC b u
  | _, u => u
def bindsAny (e : Edge) : Bool := Region.binds .any e
noncomputable def ancOf (ms : T Nat) (i : Nat) : List Edge → Option Nat
  | [] => some 0
  | e :: es => ob (ancOf ms i es) fun m => match bindsAny e with
    | false => some m
    | true => og (Nat.ble (Nat.succ e.on) i) (ob (ms.get e.on) fun k => some (Nat.lor m (Nat.lor (Nat.shiftLeft 1 e.on) k)))
noncomputable def getM (t : T Nat) (k : Nat) : Nat := Option.rec (motive := fun _ => Nat) 0 (fun n => n) (t.get k)
noncomputable def within (a m : Nat) : Bool := Nat.beq (Nat.land a m) a
noncomputable def readsOk (wr : T Nat) (m : Nat) : List Nat → Bool
  | [] => true
  | t :: ts => match within (getM wr t) m with
    | true => readsOk wr m ts
    | false => false
noncomputable def addBit (i : Nat) (rd : T Nat) : List Nat → T Nat
  | [] => rd
  | t :: ts => addBit i (natF (Nat.lor (getM rd t) (Nat.shiftLeft 1 i)) fun k => rd.set t (some k)) ts
noncomputable def writeOk (wr rd : T Nat) (m : Nat) : Option Nat → Bool
  | none => true
  | some d => match within (getM wr d) m with
    | true => within (getM rd d) m
    | false => false
noncomputable def addWr (i : Nat) (wr : T Nat) : Option Nat → T Nat
  | none => wr
  | some d => natF (Nat.lor (getM wr d) (Nat.shiftLeft 1 i)) fun k => wr.set d (some k)
noncomputable def masksOf (ops : List Oper) : List Oper → Nat → T Nat → T Nat → T Nat → Option (List Nat)
  | [], _, _, _, _ => some []
  | o :: os, i, ms, wr, rd => ob (ancOf ms i o.after.toList) fun m => natF m fun m =>
    og (readsOk wr m (tmpsOf o.op.operands.toList ++ guardTmp ops o)) (og (writeOk wr rd m o.dst)
      (ob (masksOf ops os (Nat.succ i) (ms.set i (some m)) (addWr i wr o.dst) (addBit i rd (tmpsOf o.op.operands.toList ++ guardTmp ops o))) fun l => some (m :: l)))
noncomputable def flOf (u : T Unit) : List Oper → T Unit → List Nat
  | [], _ => []
  | o :: os, seen => match o.dst with
    | none => flOf u os seen
    | some d => match u.get d with
      | none => flOf u os seen
      | some _ => match seen.get d with
        | some _ => flOf u os seen
        | none => d :: flOf u os (seen.set d (some ()))
noncomputable def comp (u : T Unit) : Code → IC
  | .skip => .skip
  | .region id ops false => .region id ops.toList (flOf u ops.toList .nil)
  | .region id ops true => .draw id ops.toList (flOf u ops.toList .nil) (masksOf ops.toList ops.toList 0 .nil .nil .nil)
  | .seq a b => .seq (comp u a) (comp u b)
  | .cond c a b => .cond c (comp u a) (comp u b)
  | .block id b => .block id (comp u b)
  | .loop b => .loop (comp u b)
  | .scope b => .scope (comp u b)
  | .exit id => .exit id
  | .ret => .ret
  | .label l => .label l
  | c => .bad c
def resTmps : List ResultVar → List Nat
  | [] => []
  | .tmp t :: rs => t :: resTmps rs
  | .cell a _ :: rs => a :: resTmps rs
noncomputable def upTo : Nat → List Nat
  | 0 => []
  | n + 1 => n :: upTo n
noncomputable def slotsOf (f : Func) (c : Code) : T Unit := useC c (useRead .nil .nil (upTo (Nat.add f.params.size f.nfree) ++ resTmps f.results.toList))
noncomputable def ifn (f : Func) (c : Code) : IFn := ⟨f, comp (slotsOf f c) c, Nat.add f.params.size f.nfree⟩
noncomputable def tiOf (P : Program) (t : TypeId) (i : TypeInfo) : Option TI :=
  match (match i.desc with
    | .named _ u => match P.types[u]? with
      | some j => some j.desc
      | none => none
    | d => some d) with
  | none => none
  | some d => some ⟨d, isAggD d, i.size, i.bytes, (match i.zero with | some z => (match plainL (cellsL z) with | true => some (cellsL z) | false => none) | none => none), (match i.zero with | some z => constE z | none => none), i.methods.toList, (!P.stoodInHeld t && !P.eqGuardType P.depth t)⟩
noncomputable def tyTab (P : Program) : List TypeInfo → Nat → T TI → T TI
  | [], _, t => t
  | i :: is, n, t => tyTab P is (Nat.succ n) (t.set n (tiOf P n i))
noncomputable def fnTab : List Func → Nat → T IFn → T IFn
  | [], _, t => t
  | f :: fs, n, t => match f.body with
    | none => fnTab fs (Nat.succ n) t
    | some c => fnTab fs (Nat.succ n) (t.set n (some (ifn f c)))
noncomputable def ctxOf (P : Program) (ext : T Xt) : Ctx :=
  ⟨P, P.globals.size, tyTab P P.types.toList 0 .nil, fnTab P.funcs.toList 0 .nil, ext⟩
end Go.Ax

namespace Go.Ax
def arrPut (arr : Array Value) (i : Nat) : List Value → Array Value
  | [] => arr
  | v :: vs => arrPut (arr.setIfInBounds i v) (i + 1) vs
theorem arrPut_size (arr : Array Value) (i : Nat) (vs : List Value) : (arrPut arr i vs).size = arr.size := by
  induction vs generalizing arr i with
  | nil => rfl
  | cons v vs ih => simp [arrPut, ih]
theorem arrPut_get (arr : Array Value) (i : Nat) (vs : List Value) (h : i + vs.length ≤ arr.size) (j : Nat) :
    (arrPut arr i vs)[j]? = if i ≤ j ∧ j < i + vs.length then vs[j - i]? else arr[j]? := by
  induction vs generalizing arr i with
  | nil => rw [arrPut, if_neg (by simp)]
  | cons v vs ih =>
    have hl : (v :: vs).length = vs.length + 1 := rfl
    rw [arrPut, ih _ _ (by rw [Array.size_setIfInBounds]; omega)]
    by_cases h0 : j = i
    · subst h0
      rw [if_neg (by omega), if_pos (by omega)]
      simp [Array.getElem?_setIfInBounds]
      omega
    · by_cases h1 : i + 1 ≤ j ∧ j < i + 1 + vs.length
      · rw [if_pos h1, if_pos (by omega)]
        have e : j - i = (j - (i + 1)) + 1 := by omega
        rw [e, List.getElem?_cons_succ]
      · rw [if_neg h1, if_neg (by omega), Array.getElem?_setIfInBounds_ne (by omega)]
def setBlk (w : World) (c : Nat) (o : Obj) : World := { w with heap := w.heap.setIfInBounds c o }
theorem setBlk_size (w : World) (c : Nat) (o : Obj) : (setBlk w c o).heap.size = w.heap.size := by simp [setBlk]
theorem setBlk_same {w : World} {c : Nat} (o : Obj) (h : c < w.heap.size) : (setBlk w c o).heap[c]? = some o := by simp [setBlk, h]
theorem setBlk_ne {w : World} {c d : Nat} (o : Obj) (h : d ≠ c) : (setBlk w c o).heap[d]? = w.heap[d]? := by
  simp [setBlk, Array.getElem?_setIfInBounds_ne (Ne.symm h)]
theorem setBlk_twice (w : World) (c : Nat) (o p : Obj) : setBlk (setBlk w c o) c p = setBlk w c p := by simp [setBlk]
theorem alloc_new (w : World) (o : Obj) : (w.alloc o).heap[w.heap.size]? = some o := by
  show (w.heap.push o)[w.heap.size]? = some o
  simp
theorem alloc_old {w : World} {c : Nat} (o : Obj) (h : c < w.heap.size) : (w.alloc o).heap[c]? = w.heap[c]? := by
  show (w.heap.push o)[c]? = _
  rw [Array.getElem?_push, if_neg (Nat.ne_of_lt h)]
theorem lt_of_blk {w : World} {c : Nat} {o : Obj} (h : w.heap[c]? = some o) : c < w.heap.size := by
  rcases Nat.lt_or_ge c w.heap.size with hl | hl
  · exact hl
  · rw [Array.getElem?_eq_none hl] at h; cases h
theorem cell_of {w : World} {c i : Nat} {arr : Array Value} {el : TypeId} {fr : Nat × Nat} {v : Value} (h : w.heap[c]? = some (.cells arr el fr)) (hv : arr[i]? = some v) :
    w.cell? ⟨c, i, none⟩ = some v := by simp [World.cell?, h, hv]
theorem frozen_of {w : World} {c i : Nat} {arr : Array Value} {el : TypeId} {lo hi : Nat} (h : w.heap[c]? = some (.cells arr el (lo, hi))) (hv : ¬ (lo ≤ i ∧ i < hi)) :
    w.frozen? ⟨c, i, none⟩ = false := by simp only [World.frozen?, h]; simpa using hv
theorem setCell_of {w : World} {c i : Nat} {arr : Array Value} {el : TypeId} {fr : Nat × Nat} (v : Value) (h : w.heap[c]? = some (.cells arr el fr)) :
    w.setCell ⟨c, i, none⟩ v = setBlk w c (.cells (arr.setIfInBounds i v) el fr) := by
  have hl := lt_of_blk h
  have hg : w.heap[c] = .cells arr el fr := by rw [Array.getElem?_eq_getElem hl] at h; exact Option.some.inj h
  unfold World.setCell setBlk
  congr 1
  apply Array.ext_getElem?
  intro d
  by_cases hd : d = c
  · subst hd
    rw [Array.getElem?_modify, if_pos rfl, h, Array.getElem?_setIfInBounds, if_pos rfl, if_pos hl]
    rfl
  · rw [Array.getElem?_modify, if_neg (Ne.symm hd), Array.getElem?_setIfInBounds_ne (Ne.symm hd)]
theorem one_eq {v : Value} : one v = v.oneCell' := by cases v <;> rfl
theorem ones_nil : ones [] = true := rfl
theorem ones_cons (v : Value) (vs : List Value) : ones (v :: vs) = (one v && ones vs) := by
  show Bool.rec (motive := fun _ => Bool) false (ones vs) (one v) = _
  cases one v <;> rfl
theorem ones_iff (vs : List Value) : ones vs = true ↔ ∀ v ∈ vs, one v = true := by
  induction vs with
  | nil => simp [ones_nil]
  | cons v vs ih => rw [ones_cons]; simp [ih]
theorem conc_one {ρ : Env} {v v' : Value} (h : conc ρ v = some v') : one v' = one v := by
  cases v with
  | pointer a => cases a with
    | none => simp [conc] at h; subst h; rfl
    | some a => simp only [conc] at h; split at h <;> cases h; rfl
  | slice a l c => cases a with
    | none => simp [conc] at h; subst h; rfl
    | some a => simp only [conc, concSlice] at h; split at h <;> cases h; rfl
  | map r => cases r with
    | none => simp [conc] at h; subst h; rfl
    | some a => simp only [conc] at h; split at h <;> cases h; rfl
  | chan r => cases r with
    | none => simp [conc] at h; subst h; rfl
    | some a => simp [conc] at h
  | func fn a b => cases h1 : concA ρ a <;> cases h2 : concA ρ b <;> cases fn <;> simp [conc, h1, h2] at h <;> subst h <;> rfl
  | iface t v => simp only [conc] at h; split at h <;> cases h; rfl
  | agg cs => simp only [conc] at h; split at h <;> cases h; rfl
  | tuple cs => simp only [conc] at h; split at h <;> cases h; rfl
  | bool _ => simp [conc] at h; subst h; rfl
  | int _ _ => simp [conc] at h; subst h; rfl
  | float _ _ => simp [conc] at h; subst h; rfl
  | complex _ _ _ => simp [conc] at h; subst h; rfl
  | string _ => simp [conc] at h; subst h; rfl
  | nilFunc => simp [conc] at h; subst h; rfl
  | nilIface => simp [conc] at h; subst h; rfl
theorem addr_add (b o n : Nat) : Addr.add ⟨b, o, none⟩ n = ⟨b, o + n, none⟩ := by
  unfold Addr.add; split <;> simp_all
theorem run_storeCells (P : Program) (c : Nat) (el : TypeId) (lo hi : Nat) : ∀ (vs : List Value) (w : World) (o i : Nat) (arr : Array Value),
    w.heap[c]? = some (.cells arr el (lo, hi)) → (∀ v ∈ vs, one v = true) → o + i + vs.length ≤ arr.size →
    (∀ j, j < vs.length → ¬ (lo ≤ o + i + j ∧ o + i + j < hi)) →
    (storeCells ⟨c, o, none⟩ vs i).run P w = .ok () (setBlk w c (.cells (arrPut arr (o + i) vs) el (lo, hi)))
  | [], w, o, i, arr, h, _, _, _ => by
    have hl := lt_of_blk h
    have hs : w.heap.setIfInBounds c (.cells arr el (lo, hi)) = w.heap := by
      apply Array.ext_getElem?
      intro d
      by_cases hd : d = c
      · subst hd; rw [Array.getElem?_setIfInBounds, if_pos rfl, if_pos hl, h]
      · rw [Array.getElem?_setIfInBounds_ne (Ne.symm hd)]
    rw [storeCells]
    show Result.ok () w = Result.ok () (setBlk w c (.cells arr el (lo, hi)))
    unfold setBlk
    rw [hs]
  | v :: vs, w, o, i, arr, h, ho, hs, hf => by
    have hlen : (v :: vs).length = vs.length + 1 := rfl
    have hlt : o + i < arr.size := by omega
    have hv : arr[o + i]? = some arr[o + i] := Array.getElem?_eq_getElem hlt
    have hfz : w.frozen? ⟨c, o + i, none⟩ = false := frozen_of h (by simpa using hf 0 (by omega))
    rw [storeCells]
    simp only [Sem.run_bind, addr_add]
    rw [run_store P w _ v .plain (by rw [← one_eq]; exact ho v (by simp)), cell_of h hv]
    simp only [hfz, Bool.false_eq_true, if_false, Result.andThen_ok]
    rw [setCell_of v h]
    have h2 := setBlk_same (w := w) (.cells (arr.setIfInBounds (o + i) v) el (lo, hi)) (lt_of_blk h)
    rw [run_storeCells P c el lo hi vs _ o (i + 1) _ h2 (fun x hx => ho x (by simp [hx])) (by rw [Array.size_setIfInBounds]; omega)
      (fun j hj => by have := hf (j + 1) (by omega); simpa [Nat.add_assoc, Nat.add_comm 1 j] using this), setBlk_twice]
    rfl
theorem asCells_eq {k : Blk} {p : T Value × Nat} (h : asCells k = some p) : ∃ esz fam pos frz ro, k = .cells p.1 p.2 esz fam pos frz ro := by
  cases k <;> simp [asCells] at h
  subst h
  exact ⟨_, _, _, _, _, rfl⟩
theorem asRw_eq {k : Blk} {c : CB} (h : asRw k = some c) : k = c.blk := by
  cases k with
  | cells vals n esz fam pos frz ro => cases ro <;> simp [asRw] at h; subst h; rfl
  | _ => simp [asRw] at h
theorem asEntries_eq {k : Blk} {p : List MapEntry × Nat} (h : asEntries k = some p) : k = .map p.1 p.2 := by
  cases k <;> simp [asEntries] at h
  subst h; rfl
variable {ρ : Env} {H : Heap} {B : Nat} {w : World}
theorem rd_sound (R : Rep ρ H B w) {b i : Nat} {v : Value} (h : rd H b i = some v) :
    ∃ l v', ρ b = some l ∧ conc ρ v = some v' ∧ w.cell? ⟨l.blk, l.sh + i, none⟩ = some v' := by
  obtain ⟨k, hk, g0⟩ := ob_eq_some h
  obtain ⟨p, hp, g1⟩ := ob_eq_some g0
  obtain ⟨hi, g2⟩ := og_eq_some g1
  obtain ⟨esz, fam, pos, frz, ro, rfl⟩ := asCells_eq hp
  obtain ⟨l, hl, arr, el, lo, hi', hb, _, hc, _⟩ := R.dom b _ hk rfl
  obtain ⟨u, v', h1, h2, h3⟩ := hc i (Nat.le_of_ble_eq_true hi)
  rw [g2] at h1
  cases h1
  exact ⟨l, v', hl, h2, cell_of hb h3⟩
theorem rdN_sound (R : Rep ρ H B w) {b i k : Nat} {vs : List Value} (h : rdN H b i k = some vs) :
    ∃ l vs', ρ b = some l ∧ concL ρ vs = some vs' ∧ vs'.length = k ∧ ∀ j x, vs'[j]? = some x → w.cell? ⟨l.blk, l.sh + i + j, none⟩ = some x := by
  obtain ⟨kk, hk, g0⟩ := ob_eq_some h
  obtain ⟨p, hp, g1⟩ := ob_eq_some g0
  obtain ⟨hi, g2⟩ := og_eq_some g1
  have hi := Nat.le_of_ble_eq_true hi
  obtain ⟨esz, fam, pos, frz, ro, rfl⟩ := asCells_eq hp
  obtain ⟨l, hl, arr, el, lo, hi', hb, _, hc, _⟩ := R.dom b _ hk rfl
  have hlen := T.take_length _ _ _ _ g2
  have hget := T.take_get _ _ _ _ g2
  have hi : i + k ≤ p.2 := hi
  have hex : ∀ (n : Nat) (xs : List Value), xs.length = n → (∃ off, off + n ≤ p.2 ∧ ∀ j, j < n → p.1.get (off + j) = xs[j]?) → ∃ xs', concL ρ xs = some xs' := by
    intro n
    induction n with
    | zero => intro xs hx _; cases xs <;> simp_all [concL]
    | succ n ih =>
      intro xs hx ⟨off, ho, hg⟩
      cases xs with
      | nil => simp at hx
      | cons y ys =>
        have hx : ys.length = n := by simpa using hx
        obtain ⟨ys', hy⟩ := ih ys hx ⟨off + 1, by omega, fun j hj => by have := hg (j + 1) (by omega); rw [List.getElem?_cons_succ] at this; rw [← this]; congr 1; omega⟩
        obtain ⟨u, v', g1, g2, _⟩ := hc off (by omega)
        have := hg 0 (by omega)
        rw [Nat.add_zero, g1] at this
        simp at this
        subst this
        exact ⟨v' :: ys', by simp [concL, g2, hy]⟩
  obtain ⟨vs', hvs⟩ := hex k vs hlen ⟨i, hi, hget⟩
  refine ⟨l, vs', hl, hvs, by rw [concL_length hvs, hlen], ?_⟩
  intro j x hx
  have hj : j < k := by
    rcases Nat.lt_or_ge j k with g | g
    · exact g
    · rw [List.getElem?_eq_none (by rw [concL_length hvs, hlen]; exact g)] at hx; cases hx
  obtain ⟨u, v', g1, g2, g3⟩ := hc (i + j) (by omega)
  have g := hget j hj
  rw [g1] at g
  obtain ⟨x', e1, e2⟩ := (concL_iff.1 hvs).2 j u g.symm
  rw [g2] at e2
  cases e2
  rw [hx] at e1
  cases e1
  exact cell_of hb (by rw [Nat.add_assoc]; exact g3)
end Go.Ax

namespace Go.Ax
variable {ρ : Env} {H : Heap} {B : Nat} {w w' : World}
structure Grow (w w' : World) (o : Obj) : Prop where
  new : w'.heap[w.heap.size]? = some o
  old : ∀ {c : Nat}, c < w.heap.size → w'.heap[c]? = w.heap[c]?
  size : w'.heap.size = w.heap.size + 1
  os : w'.os = w.os
  tape : w'.tape = w.tape
  output : w'.output = w.output
theorem Grow.push {w w' : World} {o : Obj} (h : w'.heap = w.heap.push o) (h1 : w'.os = w.os) (h2 : w'.tape = w.tape) (h3 : w'.output = w.output) : Grow w w' o where
  new := by rw [h]; simp
  old := fun hc => by rw [h, Array.getElem?_push, if_neg (Nat.ne_of_lt hc)]
  size := by rw [h]; simp
  os := h1
  tape := h2
  output := h3
theorem Grow.alloc (w : World) (o : Obj) : Grow w (w.alloc o) o := Grow.push rfl rfl rfl rfl
theorem bump_le (id n : Nat) : n ≤ bump id n := by
  show n ≤ Bool.rec (motive := fun _ => Nat) n (Nat.succ id) (Nat.ble n id)
  cases h : Nat.ble n id with
  | true => have := Nat.le_of_ble_eq_true h; exact Nat.le_succ_of_le this
  | false => exact Nat.le_refl _
theorem lt_bump (id n : Nat) : id < bump id n := by
  show id < Bool.rec (motive := fun _ => Nat) n (Nat.succ id) (Nat.ble n id)
  cases h : Nat.ble n id with
  | true => exact Nat.lt_succ_self _
  | false =>
    rcases Nat.lt_or_ge id n with g | g
    · exact g
    · rw [Nat.ble_eq_true_of_le g] at h; cases h
theorem newBlk_eq (H : Heap) (id : Nat) (k : Blk) : newBlk H id k = ⟨H.blks.set id (some k), H.fams, bump id H.next⟩ := natF_eq _ _
theorem BlkAt.move {ρ ρ' : Env} (h : ρ.le ρ') {l : Loc} {k : Blk} (hb : w'.heap[l.blk]? = w.heap[l.blk]?) (hk : BlkAt ρ w l k) : BlkAt ρ' w' l k := by
  cases k with
  | cells vals n esz fam pos frz ro =>
    obtain ⟨arr, el, lo, hi, h1, h2, h3, h4⟩ := hk
    refine ⟨arr, el, lo, hi, hb.trans h1, h2, ?_, h4⟩
    intro i hi'
    obtain ⟨v, v', e1, e2, e3⟩ := h3 i hi'
    exact ⟨v, v', e1, conc_mono h e2, e3⟩
  | map es clock =>
    obtain ⟨es', h1, h2⟩ := hk
    refine ⟨es', hb.trans h1, ?_⟩
    generalize es'.toList = l at h2
    induction h2 with
    | nil => exact .nil
    | cons a _ ih => exact .cons ⟨a.1, a.2.1, a.2.2.1, conc_mono h a.2.2.2⟩ ih
  | siter s p => exact hb.trans hk
  | dead => trivial
theorem Rep.blk_lt (R : Rep ρ H B w) {b : Nat} {l : Loc} (h : ρ b = some l) : l.blk < w.heap.size := R.inb b l h
theorem new_sound (R : Rep ρ H B w) {id : Nat} (hid : ρ id = none) {k : Blk} (hl : k.live = true) (hro : k.ro = false) (ext : Nat) {o : Obj} (g : Grow w w' o)
    (hk : BlkAt (ρ.put id ⟨w.heap.size, 0, ext⟩) w' ⟨w.heap.size, 0, ext⟩ k)
    (hf : ∀ vals n esz fam pos frz ro, k = .cells vals n esz fam pos frz ro → fam = id) :
    Rep (ρ.put id ⟨w.heap.size, 0, ext⟩) (newBlk H id k) B w' ∧ Stp id ρ H w (ρ.put id ⟨w.heap.size, 0, ext⟩) (newBlk H id k) w' := by
  have hle := Env.le_put hid ⟨w.heap.size, 0, ext⟩
  rw [newBlk_eq]
  have hput : ∀ {b l}, (ρ.put id ⟨w.heap.size, 0, ext⟩) b = some l → (b = id ∧ l = ⟨w.heap.size, 0, ext⟩) ∨ (b ≠ id ∧ ρ b = some l) := by
    intro b l h
    by_cases hb : b = id
    · subst hb; rw [Env.put_same] at h; cases h; exact .inl ⟨rfl, rfl⟩
    · rw [Env.put_ne ρ _ hb] at h; exact .inr ⟨hb, h⟩
  have hget : ∀ {b x}, (H.blks.set id (some k)).get b = some x → (b = id ∧ x = k) ∨ (b ≠ id ∧ H.blks.get b = some x) := by
    intro b x h
    by_cases hb : b = id
    · subst hb; rw [T.get_set_same] at h; cases h; exact .inl ⟨rfl, rfl⟩
    · rw [T.get_set_ne _ _ hb] at h; exact .inr ⟨hb, h⟩
  refine ⟨⟨?_, ?_, ?_, ?_, ?_, ?_, ?_, ?_, ?_⟩, ⟨hle, ?_, bump_le _ _, g.os, g.tape, g.output, by rw [g.size]; omega, ?_, ?_, ?_, ?_⟩⟩
  · intro b x hx hlv
    rcases hget hx with ⟨rfl, rfl⟩ | ⟨hb, hx⟩
    · exact ⟨_, Env.put_same _ _ _, hk⟩
    · obtain ⟨l, h1, h2⟩ := R.dom b x hx hlv
      exact ⟨l, hle b l h1, h2.move hle (g.old (R.inb b l h1))⟩
  · intro b l h
    rw [g.size]
    rcases hput h with ⟨_, rfl⟩ | ⟨_, h⟩
    · exact Nat.lt_succ_self _
    · exact Nat.lt_succ_of_lt (R.inb b l h)
  · intro b x l hx hlv h
    rcases hget hx with ⟨rfl, rfl⟩ | ⟨hb, hx⟩
    · rw [Env.put_same] at h
      cases h
      exact And.intro (fun e => by rw [hro] at e; cases e) (fun _ => R.base)
    · rw [Env.put_ne ρ _ hb] at h
      exact R.own b x l hx hlv h
  · intro b1 b2 k1 k2 l1 l2 hne h1 h2 lv1 lv2 r1 r2 e1 e2 he
    rcases hget h1 with ⟨rfl, rfl⟩ | ⟨hb1, h1⟩
    · rw [Env.put_same] at e1
      cases e1
      rcases hput e2 with ⟨q, _⟩ | ⟨_, e2⟩
      · exact absurd q.symm hne
      · have := R.inb b2 l2 e2
        simp at he
        omega
    · rw [Env.put_ne ρ _ hb1] at e1
      rcases hget h2 with ⟨rfl, rfl⟩ | ⟨hb2, h2⟩
      · rw [Env.put_same] at e2
        cases e2
        have := R.inb b1 l1 e1
        simp at he
        omega
      · rw [Env.put_ne ρ _ hb2] at e2
        exact R.apart b1 b2 k1 k2 l1 l2 hne h1 h2 lv1 lv2 r1 r2 e1 e2 he
  · intro b vals n esz fam pos frz h
    rcases hget h with ⟨rfl, hkk⟩ | ⟨hb, h⟩
    · have hfam := hf _ _ _ _ _ _ _ hkk.symm
      subst hfam
      have : H.fams.get fam = none := by
        cases hff : H.fams.get fam with
        | none => rfl
        | some l => obtain ⟨x, hx⟩ := R.famn fam l hff; rw [hid] at hx; cases hx
      simp [Heap.members, this]
    · exact R.mem b vals n esz fam pos frz h
  · intro f l h
    obtain ⟨x, hx⟩ := R.famn f l h
    exact ⟨x, hle f x hx⟩
  · intro b vals n esz fam pos frz ro h
    rcases hget h with ⟨rfl, hkk⟩ | ⟨hb, h⟩
    · have hfam := hf _ _ _ _ _ _ _ hkk.symm
      subst hfam
      exact ⟨_, Env.put_same _ _ _⟩
    · obtain ⟨x, hx⟩ := R.famd b vals n esz fam pos frz ro h
      exact ⟨x, hle fam x hx⟩
  · rw [g.size]; exact Nat.le_succ_of_le R.base
  · intro b vals n esz pos frz ro l h e
    rcases hget h with ⟨rfl, _⟩ | ⟨hb, h⟩
    · rw [Env.put_same] at e; cases e; rfl
    · rw [Env.put_ne ρ _ hb] at e; exact R.root b vals n esz pos frz ro l h e
  · intro b l h h0
    rcases hput h with ⟨rfl, _⟩ | ⟨_, h⟩
    · exact ⟨.inl rfl, lt_bump _ _⟩
    · rw [h] at h0; cases h0
  · intro c hc _
    exact g.old hc
  · intro b x l hx hlv r h hlt
    rcases hget hx with ⟨rfl, rfl⟩ | ⟨hb, hx⟩
    · rw [Env.put_same] at h
      cases h
      simp at hlt
    · rw [Env.put_ne ρ _ hb] at h
      exact ⟨b, x, l, hx, hlv, r, h, rfl⟩
  · intro f _ hfx hno
    refine ⟨rfl, ?_⟩
    intro b vals n esz pos frz h
    rcases hget h with ⟨rfl, hkk⟩ | ⟨hb, h⟩
    · exact hfx (hf _ _ _ _ _ _ _ hkk.symm)
    · exact hno b vals n esz pos frz h
  · intro b x h
    rcases hget h with ⟨rfl, _⟩ | ⟨_, h⟩
    · exact .inr ⟨.inl rfl, lt_bump _ _⟩
    · exact .inl ⟨x, h⟩
theorem newCells_sound (R : Rep ρ H B w) {id : Nat} (hid : ρ id = none) {vs vs' : List Value} (hv : concL ρ vs = some vs') (esz : Es) (ext : Nat) {arr : Array Value} {el : TypeId} {lo hi : Nat} (hel : el = esz.el)
    (g : Grow w w' (.cells arr el (lo, hi))) (ha : ∀ (i : Nat) (x : Value), vs'[i]? = some x → arr[i]? = some x) (hs : vs.length + ext * esz.n ≤ arr.size) (hfz : ∀ i, i < vs.length + ext * esz.n → ¬ (lo ≤ i ∧ i < hi)) :
    Rep (ρ.put id ⟨w.heap.size, 0, ext⟩) (newCells H id vs esz) B w' ∧ Stp id ρ H w (ρ.put id ⟨w.heap.size, 0, ext⟩) (newCells H id vs esz) w' := by
  refine new_sound R hid rfl rfl ext g ?_ (fun _ _ _ _ _ _ _ e => by cases e; rfl)
  refine ⟨arr, el, lo, hi, g.new, by simpa using hs, ?_, hel, ?_⟩
  · intro i hi'
    have hlt : i < vs.length := hi'
    obtain ⟨x, h1, h2⟩ := (concL_iff.1 hv).2 i vs[i] (List.getElem?_eq_getElem hlt)
    refine ⟨vs[i], x, by rw [T.get_ofList, List.getElem?_eq_getElem hlt], conc_mono (Env.le_put hid _) h2, ?_⟩
    rw [Nat.zero_add]
    exact ha i x h1
  · intro _ i _ h
    rw [Nat.zero_add]
    exact hfz i h
theorem killL_spec (ex lo hi : Nat) : ∀ (ms : List Nat) (t : T Blk) (m : Nat), (killL ex lo hi ms t).get m = t.get m ∨ ((killL ex lo hi ms t).get m = some .dead ∧ m ≠ ex)
  | [], t, m => .inl rfl
  | x :: ms, t, m => by
    rw [killL]
    cases h : Nat.beq x ex with
    | true => exact killL_spec ex lo hi ms t m
    | false =>
      have hx := Nat.ne_of_beq_eq_false h
      simp only []
      split
      · split
        · exact killL_spec ex lo hi ms t m
        · split
          · exact killL_spec ex lo hi ms t m
          · rcases killL_spec ex lo hi ms (t.set x (some .dead)) m with e | e
            · by_cases hm : m = x
              · subst hm
                rw [T.get_set_same] at e
                exact .inr ⟨e, hx⟩
              · rw [T.get_set_ne _ _ hm] at e
                exact .inl e
            · exact .inr e
      · exact killL_spec ex lo hi ms t m
theorem killL_out (ex lo hi : Nat) : ∀ (ms : List Nat) (t : T Blk) (m : Nat), m ∈ ms → m ≠ ex → ∀ vals n esz fam pos frz ro,
    (killL ex lo hi ms t).get m = some (.cells vals n esz fam pos frz ro) → hi ≤ pos ∨ pos + n ≤ lo
  | [], t, m, h, _ => by cases h
  | x :: ms, t, m, hm, hex => by
    intro vals n esz fam pos frz ro hg
    by_cases hmx : m = x
    · subst hmx
      rw [killL] at hg
      have hb : Nat.beq m ex = false := by
        cases h : Nat.beq m ex with
        | true => exact absurd (Nat.eq_of_beq_eq_true h) hex
        | false => rfl
      rw [hb] at hg
      simp only [] at hg
      have key : ∀ t', (killL ex lo hi ms t').get m = some (.cells vals n esz fam pos frz ro) → t'.get m = some (.cells vals n esz fam pos frz ro) := by
        intro t' h
        rcases killL_spec ex lo hi ms t' m with e | e
        · rw [← e]; exact h
        · rw [e.1] at h; cases h
      split at hg
      · rename_i vals' n' esz' fam' pos' frz' ro' hm'
        split at hg
        · rename_i hle
          have := key t hg
          rw [hm'] at this
          cases this
          exact .inl (Nat.le_of_ble_eq_true hle)
        · split at hg
          · rename_i hle
            have := key t hg
            rw [hm'] at this
            cases this
            exact .inr (Nat.le_of_ble_eq_true hle)
          · have := key _ hg
            rw [T.get_set_same] at this
            cases this
      · rename_i hne
        have := key t hg
        exact absurd this (hne _ _ _ _ _ _ _)
    · have hm' : m ∈ ms := by
        rcases List.mem_cons.1 hm with e | e
        · exact absurd e hmx
        · exact e
      rw [killL] at hg
      split at hg
      · exact killL_out ex lo hi ms t m hm' hex _ _ _ _ _ _ _ hg
      · split at hg
        · split at hg
          · exact killL_out ex lo hi ms t m hm' hex _ _ _ _ _ _ _ hg
          · split at hg
            · exact killL_out ex lo hi ms t m hm' hex _ _ _ _ _ _ _ hg
            · exact killL_out ex lo hi ms _ m hm' hex _ _ _ _ _ _ _ hg
        · exact killL_out ex lo hi ms t m hm' hex _ _ _ _ _ _ _ hg
theorem kill_get (H : Heap) (fam ex lo hi m : Nat) {k : Blk} (hl : k.live = true) (h : (H.kill fam ex lo hi).get m = some k) : H.blks.get m = some k := by
  rcases killL_spec ex lo hi (H.members fam) H.blks m with e | e
  · rw [← e]; exact h
  · have h' : (H.kill fam ex lo hi).get m = some .dead := e.1
    rw [h] at h'
    cases h'
    cases hl
theorem killL_had (ex lo hi : Nat) : ∀ (ms : List Nat) (t : T Blk) (m : Nat) {k : Blk}, (killL ex lo hi ms t).get m = some k → ∃ k0, t.get m = some k0
  | [], t, m, k, h => ⟨k, h⟩
  | x :: ms, t, m, k, h => by
    rw [killL] at h
    split at h
    · exact killL_had ex lo hi ms t m h
    · split at h
      · rename_i hx
        split at h
        · exact killL_had ex lo hi ms t m h
        · split at h
          · exact killL_had ex lo hi ms t m h
          · obtain ⟨k0, h0⟩ := killL_had ex lo hi ms _ m h
            by_cases hm : m = x
            · subst hm; exact ⟨_, hx⟩
            · rw [T.get_set_ne _ _ hm] at h0; exact ⟨k0, h0⟩
      · exact killL_had ex lo hi ms t m h
theorem kill_had {H : Heap} {fam ex lo hi m : Nat} {k : Blk} (h : (H.kill fam ex lo hi).get m = some k) : ∃ k0, H.blks.get m = some k0 := killL_had ex lo hi _ _ m h
theorem cells_other (R : Rep ρ H B w) {b : Nat} {c : CB} {l : Loc} (hk : H.blks.get b = some c.blk) (hb : ρ b = some l) {lo hi : Nat} {i m : Nat} (hlo : lo = c.pos + i) (hhi : hi = c.pos + i + m)
    (him : i + m ≤ c.n + l.ext * c.esz.n) {arr : Array Value} {el : TypeId} {fl fh : Nat} (hw : w.heap[l.blk]? = some (.cells arr el (fl, fh))) {vs' : List Value} (hm : vs'.length = m) (hsz : l.sh + i + m ≤ arr.size)
    {ex b2 : Nat} (hex : b2 ≠ ex) {k2 : Blk} (h2 : (H.kill c.fam ex lo hi).get b2 = some k2) (lv : k2.live = true) {l2 : Loc} (e2 : ρ b2 = some l2)
    {w' : World} (hw' : w' = setBlk w l.blk (.cells (arrPut arr (l.sh + i) vs') el (fl, fh))) : BlkAt ρ w' l2 k2 := by
  have h2' := kill_get H c.fam ex lo hi b2 lv h2
  obtain ⟨l2', e2', hat⟩ := R.dom b2 k2 h2' lv
  rw [e2] at e2'
  cases e2'
  subst hw'
  by_cases hblk : l2.blk = l.blk
  · have hcl : c.blk.live = true := by cases c; rfl
    have hcr : c.blk.ro = false := by cases c; rfl
    have hown := (R.own b c.blk l hk hcl hb).2 hcr
    cases hr : k2.ro with
    | true =>
      have := (R.own b2 k2 l2 h2' lv e2).1 hr
      omega
    | false =>
      have hbes : (b2 = b ∧ k2 = c.blk ∧ l2 = l) ∨ c.blk.beside l l2 k2 := by
        by_cases hne : b2 = b
        · subst hne
          rw [hk] at h2'
          cases h2'
          rw [hb] at e2
          cases e2
          exact .inl ⟨rfl, rfl, rfl⟩
        · exact .inr (R.apart b b2 c.blk k2 l l2 (Ne.symm hne) hk h2' hcl lv hcr hr hb e2 hblk.symm)
      cases k2 with
      | cells vals2 n2 z2 f2 p2 fz2 ro2 =>
        obtain ⟨arr2, el2, lo2, hi2, g1, g2, g3, g4⟩ := hat
        rw [hblk, hw] at g1
        cases g1
        refine ⟨arrPut arr (l.sh + i) vs', el, fl, fh, by rw [hblk]; exact setBlk_same _ (lt_of_blk hw), by rw [arrPut_size]; exact g2, ?_, g4⟩
        intro j hj
        obtain ⟨v, v', a1, a2, a3⟩ := g3 j hj
        refine ⟨v, v', a1, a2, ?_⟩
        rw [arrPut_get _ _ _ (by omega), if_neg ?_]
        · exact a3
        · intro ⟨q1, q2⟩
          have hbs : ∀ i1 i2, i1 < c.n + l.ext * c.esz.n → i2 < n2 + l2.ext * z2.n → l.sh + i1 = l2.sh + i2 → c.fam = f2 ∧ c.pos + i1 = p2 + i2 := by
            intro i1 i2 t1 t2 t3
            rcases hbes with ⟨_, t4, t5⟩ | hbes
            · cases c
              cases t4
              subst t5
              exact ⟨rfl, by simp only [CB.pos]; omega⟩
            · cases c; exact ⟨hbes.1, hbes.2 i1 i2 t1 t2 t3⟩
          obtain ⟨q3, q4⟩ := hbs (l2.sh + j - l.sh) j (by omega) (by omega) (by omega)
          have hro2 : ro2 = false := hr
          subst hro2
          have hmem := R.mem b2 vals2 n2 z2 f2 p2 fz2 h2'
          rw [← q3] at hmem
          have hout := killL_out ex lo hi (H.members c.fam) H.blks b2 hmem hex _ _ _ _ _ _ _ h2
          omega
      | map _ _ =>
        rcases hbes with ⟨_, t, _⟩ | hbes
        · cases c; cases t
        · cases c; exact hbes.elim
      | siter _ _ =>
        rcases hbes with ⟨_, t, _⟩ | hbes
        · cases c; cases t
        · cases c; exact hbes.elim
      | dead => cases lv
  · exact hat.move (Env.le_refl ρ) (setBlk_ne _ hblk)
theorem CB.at_ (R : Rep ρ H B w) {b : Nat} {c : CB} (hk : H.blks.get b = some c.blk) : ∃ l, ρ b = some l ∧ CellsAt ρ w l c.vals c.n c.esz c.frz false := by
  cases c
  exact R.dom b _ hk rfl
theorem concL_get {ρ : Env} {vs vs' : List Value} (h : concL ρ vs = some vs') {i : Nat} (hi : i < vs.length) : ∃ v v', vs[i]? = some v ∧ vs'[i]? = some v' ∧ conc ρ v = some v' := by
  obtain ⟨v', h1, h2⟩ := (concL_iff.1 h).2 i vs[i] (List.getElem?_eq_getElem hi)
  exact ⟨vs[i], v', List.getElem?_eq_getElem hi, h1, h2⟩
theorem wr_sound (R : Rep ρ H B w) {b i : Nat} {vs vs' : List Value} {c : CB} (hk : H.blks.get b = some c.blk) (hi : i + vs.length ≤ c.n) (hf : c.frz ≤ i) (hv : concL ρ vs = some vs') (x : Nat) :
    ∃ l arr el lo hi, ρ b = some l ∧ w.heap[l.blk]? = some (.cells arr el (lo, hi)) ∧ l.sh + i + vs.length ≤ arr.size ∧ (∀ j, j < vs.length → ¬ (lo ≤ l.sh + i + j ∧ l.sh + i + j < hi)) ∧
      Rep ρ (wr2 H b i vs c) B (setBlk w l.blk (.cells (arrPut arr (l.sh + i) vs') el (lo, hi))) ∧
      Stp x ρ H w ρ (wr2 H b i vs c) (setBlk w l.blk (.cells (arrPut arr (l.sh + i) vs') el (lo, hi))) := by
  obtain ⟨l, hb, arr, el, lo, hi', hw, hsz, hcs, hel, hfz⟩ := CB.at_ R hk
  have hlen := concL_length hv
  have hcl : c.blk.live = true := by cases c; rfl
  have hcr : c.blk.ro = false := by cases c; rfl
  refine ⟨l, arr, el, lo, hi', hb, hw, by omega, fun j hj => by have := hfz rfl (i + j) (by omega) (by omega); rwa [← Nat.add_assoc] at this, ?_⟩
  generalize hw' : setBlk w l.blk (.cells (arrPut arr (l.sh + i) vs') el (lo, hi')) = w'
  have hsize : w'.heap.size = w.heap.size := by rw [← hw', setBlk_size]
  have hget : ∀ {m k}, ((H.kill c.fam b (c.pos + i) (c.pos + i + vs.length)).set b (some (c.put (c.vals.put i vs)))).get m = some k → (m = b ∧ k = c.put (c.vals.put i vs)) ∨ (m ≠ b ∧ (H.kill c.fam b (c.pos + i) (c.pos + i + vs.length)).get m = some k) := by
    intro m k h
    by_cases hm : m = b
    · subst hm; rw [T.get_set_same] at h; cases h; exact .inl ⟨rfl, rfl⟩
    · rw [T.get_set_ne _ _ hm] at h; exact .inr ⟨hm, h⟩
  have hold : ∀ {m k}, ((H.kill c.fam b (c.pos + i) (c.pos + i + vs.length)).set b (some (c.put (c.vals.put i vs)))).get m = some k → k.live = true →
      ∃ k0, H.blks.get m = some k0 ∧ k0.live = true ∧ k0.ro = k.ro ∧ (∀ (l1 l2 : Loc) (kk : Blk), k0.beside l1 l2 kk → k.beside l1 l2 kk) ∧ (∀ (l1 l2 : Loc) (kk : Blk), kk.beside l1 l2 k0 → kk.beside l1 l2 k) ∧
        (∀ vals n esz fam pos frz ro, k = .cells vals n esz fam pos frz ro → ∃ vals0, k0 = .cells vals0 n esz fam pos frz ro) := by
    intro m k h lv
    rcases hget h with ⟨rfl, rfl⟩ | ⟨hm, h⟩
    · refine ⟨c.blk, hk, hcl, by cases c; rfl, ?_, ?_, ?_⟩
      · intro l1 l2 kk hh; cases c; cases kk <;> exact hh
      · intro l1 l2 kk hh; cases c; cases kk <;> exact hh
      · intro vals n esz fam pos frz ro e; cases c; cases e; exact ⟨_, rfl⟩
    · exact ⟨k, kill_get H _ _ _ _ m lv h, lv, rfl, fun _ _ _ hh => hh, fun _ _ _ hh => hh, fun _ _ _ _ _ _ _ e => ⟨_, e⟩⟩
  have hoth : ∀ d, d ≠ l.blk → w'.heap[d]? = w.heap[d]? := fun d hd => by rw [← hw']; exact setBlk_ne _ hd
  refine ⟨⟨?_, fun m k h => by rw [hsize]; exact R.inb m k h, ?_, ?_, ?_, R.famn, ?_, by rw [hsize]; exact R.base, ?_⟩,
    ⟨Env.le_refl ρ, (fun m k h1 h2 => by rw [h1] at h2; cases h2), Nat.le_refl _, (by rw [← hw']; rfl), (by rw [← hw']; rfl), (by rw [← hw']; rfl), (by rw [hsize]; exact Nat.le_refl _), ?_, ?_, ?_, ?_⟩⟩
  · intro m k h lv
    rcases hget h with ⟨rfl, rfl⟩ | ⟨hm, h⟩
    · refine ⟨l, hb, ?_⟩
      have hat : CellsAt ρ w' l (c.vals.put i vs) c.n c.esz c.frz false := by
        refine ⟨arrPut arr (l.sh + i) vs', el, lo, hi', by rw [← hw']; exact setBlk_same _ (lt_of_blk hw), by rw [arrPut_size]; exact hsz, ?_, hel, hfz⟩
        intro j hj
        rw [T.get_put, arrPut_get _ _ _ (by omega)]
        by_cases hin : i ≤ j ∧ j < i + vs.length
        · obtain ⟨v, v', a1, a2, a3⟩ := concL_get hv (i := j - i) (by omega)
          rw [if_pos hin, if_pos (by omega)]
          refine ⟨v, v', a1, a3, ?_⟩
          rw [← a2]; congr 1; omega
        · obtain ⟨v, v', a1, a2, a3⟩ := hcs j hj
          rw [if_neg hin, if_neg (by omega)]
          exact ⟨v, v', a1, a2, a3⟩
      cases c; exact hat
    · have h0 := kill_get H _ _ _ _ m lv h
      obtain ⟨l2, e2, _⟩ := R.dom m k h0 lv
      exact ⟨l2, e2, cells_other R hk hb rfl rfl (by omega) hw (by omega) (by omega) hm h lv e2 hw'.symm⟩
  · intro m k l2 h lv e
    obtain ⟨k0, g1, g2, g3, _⟩ := hold h lv
    have := R.own m k0 l2 g1 g2 e
    rwa [g3] at this
  · intro b1 b2 k1 k2 l1 l2 hne h1 h2 lv1 lv2 r1 r2 e1 e2 he
    obtain ⟨k10, a1, a2, a3, a4, _⟩ := hold h1 lv1
    obtain ⟨k20, c1, c2, c3, _, c5, _⟩ := hold h2 lv2
    exact a4 _ _ _ (c5 _ _ _ (R.apart b1 b2 k10 k20 l1 l2 hne a1 c1 a2 c2 (a3.trans r1) (c3.trans r2) e1 e2 he))
  · intro m vals n esz fam pos frz h
    obtain ⟨k0, a1, _, _, _, _, a6⟩ := hold h rfl
    obtain ⟨vals0, rfl⟩ := a6 _ _ _ _ _ _ _ rfl
    exact R.mem m vals0 n esz fam pos frz a1
  · intro m vals n esz fam pos frz ro h
    obtain ⟨k0, a1, _, _, _, _, a6⟩ := hold h rfl
    obtain ⟨vals0, rfl⟩ := a6 _ _ _ _ _ _ _ rfl
    exact R.famd m vals0 n esz fam pos frz ro a1
  · intro m vals n esz pos frz ro l2 h e
    obtain ⟨k0, a1, _, _, _, _, a6⟩ := hold h rfl
    obtain ⟨vals0, rfl⟩ := a6 _ _ _ _ _ _ _ rfl
    exact R.root m vals0 n esz pos frz ro l2 a1 e
  · intro d hd hno
    exact hoth d (fun e => hno b c.blk l hk hcl hcr hb e.symm)
  · intro m k l2 h lv r e hlt
    obtain ⟨k0, a1, a2, a3, _⟩ := hold h lv
    exact ⟨m, k0, l2, a1, a2, a3.trans r, e, rfl⟩
  · intro f _ _ hno
    refine ⟨rfl, ?_⟩
    intro m vals n esz pos frz h
    obtain ⟨k0, a1, _, _, _, _, a6⟩ := hold h rfl
    obtain ⟨vals0, rfl⟩ := a6 _ _ _ _ _ _ _ rfl
    exact hno m vals0 n esz pos frz a1
  · intro m k h
    rcases hget h with ⟨rfl, _⟩ | ⟨_, h⟩
    · exact .inl ⟨_, hk⟩
    · exact .inl (kill_had h)
theorem deadL_spec : ∀ (ms : List Nat) (t : T Blk) (m : Nat), (deadL ms t).get m = t.get m ∨ ((deadL ms t).get m = some .dead ∧ ∃ k, t.get m = some k)
  | [], t, m => .inl rfl
  | x :: ms, t, m => by
    rw [deadL]
    split
    · rename_i k hx
      by_cases hm : m = x
      · subst hm
        rcases deadL_spec ms (t.set m (some .dead)) m with e | e
        · rw [T.get_set_same] at e; exact .inr ⟨e, k, hx⟩
        · exact .inr ⟨e.1, k, hx⟩
      · rcases deadL_spec ms (t.set x (some .dead)) m with e | e
        · rw [T.get_set_ne _ _ hm] at e; exact .inl e
        · rw [T.get_set_ne _ _ hm] at e; exact .inr e
    · exact deadL_spec ms t m
theorem deadL_in : ∀ (ms : List Nat) (t : T Blk) (m : Nat) (k : Blk), m ∈ ms → (deadL ms t).get m = some k → k = .dead
  | [], _, _, _, h, _ => by cases h
  | x :: ms, t, m, k, h, hg => by
    rw [deadL] at hg
    by_cases hm : m ∈ ms
    · split at hg
      · exact deadL_in ms _ m k hm hg
      · exact deadL_in ms _ m k hm hg
    · have hx : m = x := by
        rcases List.mem_cons.1 h with e | e
        · exact e
        · exact absurd e hm
      subst hx
      split at hg
      · rcases deadL_spec ms (t.set m (some .dead)) m with e | e
        · rw [T.get_set_same] at e; rw [e] at hg; cases hg; rfl
        · rw [e.1] at hg; cases hg; rfl
      · rename_i hn
        rcases deadL_spec ms t m with e | ⟨_, k0, e⟩
        · rw [e, hn] at hg; cases hg
        · rw [hn] at e; cases e
theorem dead_get {H : Heap} {fam m : Nat} {k : Blk} (hl : k.live = true) (h : (H.dead fam).blks.get m = some k) : H.blks.get m = some k ∧ m ∉ H.members fam := by
  have h : (deadL (H.members fam) H.blks).get m = some k := h
  refine ⟨?_, fun hm => ?_⟩
  · rcases deadL_spec (H.members fam) H.blks m with e | e
    · rw [← e]; exact h
    · rw [e.1] at h; cases h; cases hl
  · have := deadL_in _ _ _ _ hm h
    subst this
    cases hl
theorem dead_cells {H : Heap} {fam m : Nat} {vals : T Value} {n : Nat} {esz : Es} {f pos frz : Nat} {ro : Bool} (h : (H.dead fam).blks.get m = some (.cells vals n esz f pos frz ro)) :
    H.blks.get m = some (.cells vals n esz f pos frz ro) := (dead_get rfl h).1
theorem dead_sound (R : Rep ρ H B w) {b : Nat} {c : CB} {l : Loc} (hk : H.blks.get b = some c.blk) (hb : ρ b = some l) (x : Nat) {w' : World}
    (hs : w'.heap.size = w.heap.size) (ho : ∀ d, d ≠ l.blk → w'.heap[d]? = w.heap[d]?) (h1 : w'.os = w.os) (h2 : w'.tape = w.tape) (h3 : w'.output = w.output) :
    Rep ρ (H.dead c.fam) B w' ∧ Stp x ρ H w ρ (H.dead c.fam) w' := by
  have hcl : c.blk.live = true := by cases c; rfl
  have hcr : c.blk.ro = false := by cases c; rfl
  have hbm : b ∈ H.members c.fam := by cases c; exact R.mem b _ _ _ _ _ _ hk
  have hown := (R.own b c.blk l hk hcl hb).2 hcr
  have hno : ∀ m k l2, (H.dead c.fam).blks.get m = some k → k.live = true → ρ m = some l2 → l2.blk ≠ l.blk := by
    intro m k l2 h lv e he
    obtain ⟨h0, hm⟩ := dead_get lv h
    have hmb : m ≠ b := fun e => hm (e ▸ hbm)
    cases hr : k.ro with
    | true =>
      have := (R.own m k l2 h0 lv e).1 hr
      omega
    | false =>
      have hbs := R.apart m b k c.blk l2 l hmb h0 hk lv hcl hr hcr e hb he
      cases k with
      | cells vals n esz fam pos frz ro =>
        cases c with
        | mk vals2 n2 esz2 fam2 pos2 frz2 =>
          have hf : fam = fam2 := hbs.1
          subst hf
          have hr : ro = false := hr
          subst hr
          exact hm (R.mem m _ _ _ _ _ _ h0)
      | map es cl => exact hbs.elim
      | siter s p => exact hbs.elim
      | dead => cases lv
  refine ⟨⟨?_, fun m k h => by rw [hs]; exact R.inb m k h, ?_, ?_, ?_, R.famn, ?_, by rw [hs]; exact R.base, ?_⟩,
    ⟨Env.le_refl ρ, (fun m k h1 h2 => by rw [h1] at h2; cases h2), Nat.le_refl _, h1, h2, h3, (by rw [hs]; exact Nat.le_refl _), ?_, ?_, ?_, ?_⟩⟩
  · intro m k h lv
    obtain ⟨h0, _⟩ := dead_get lv h
    obtain ⟨l2, e2, hat⟩ := R.dom m k h0 lv
    exact ⟨l2, e2, BlkAt.move (Env.le_refl ρ) (ho _ (hno m k l2 h lv e2)) hat⟩
  · intro m k l2 h lv e
    exact R.own m k l2 (dead_get lv h).1 lv e
  · intro b1 b2 k1 k2 l1 l2 hne g1 g2 lv1 lv2 r1 r2 e1 e2 he
    exact R.apart b1 b2 k1 k2 l1 l2 hne (dead_get lv1 g1).1 (dead_get lv2 g2).1 lv1 lv2 r1 r2 e1 e2 he
  · intro m vals n esz fam pos frz h
    exact R.mem m vals n esz fam pos frz (dead_cells h)
  · intro m vals n esz fam pos frz ro h
    exact R.famd m vals n esz fam pos frz ro (dead_cells h)
  · intro m vals n esz pos frz ro l2 h e
    exact R.root m vals n esz pos frz ro l2 (dead_cells h) e
  · intro d hd hn
    exact ho d (fun e => hn b c.blk l hk hcl hcr hb e.symm)
  · intro m k l2 h lv r e hlt
    exact ⟨m, k, l2, (dead_get lv h).1, lv, r, e, rfl⟩
  · intro f _ _ hn
    exact ⟨rfl, fun m vals n esz pos frz h => hn m vals n esz pos frz (dead_cells h)⟩
  · intro m k h
    have h : (deadL (H.members c.fam) H.blks).get m = some k := h
    rcases deadL_spec (H.members c.fam) H.blks m with e | ⟨_, k0, e⟩
    · rw [e] at h; exact .inl ⟨k, h⟩
    · exact .inl ⟨k0, e⟩
noncomputable def forkH (H : Heap) (id i m : Nat) (vals : T Value) (n pos frz : Nat) (c : CB) : Heap :=
  ⟨(H.kill c.fam id i m).set id (some (.cells vals n c.esz c.fam pos frz false)), H.fams.set c.fam (some (id :: H.members c.fam)), bump id H.next⟩
theorem fork_rep (R : Rep ρ H B w) {id b : Nat} (hid : ρ id = none) {c : CB} (hk : H.blks.get b = some c.blk) (i m : Nat) (vals : T Value) (n pos frz : Nat) (l' : Loc)
    (hat : BlkAt (ρ.put id l') w' l' (.cells vals n c.esz c.fam pos frz false))
    (hoth : ∀ b2 k2 l2, b2 ≠ id → (H.kill c.fam id i m).get b2 = some k2 → k2.live = true → ρ b2 = some l2 → BlkAt ρ w' l2 k2)
    (hap : ∀ b2 k2 l2, b2 ≠ id → (H.kill c.fam id i m).get b2 = some k2 → k2.live = true → k2.ro = false → ρ b2 = some l2 → l2.blk = l'.blk →
      Blk.beside l' l2 (.cells vals n c.esz c.fam pos frz false) k2 ∧ Blk.beside l2 l' k2 (.cells vals n c.esz c.fam pos frz false))
    (hB : B ≤ l'.blk) (hlt : l'.blk < w'.heap.size) (hsz : w.heap.size ≤ w'.heap.size) (hos : w'.os = w.os) (htp : w'.tape = w.tape) (hout : w'.output = w.output)
    (hkeep : ∀ d, d < w.heap.size → (∀ l, ρ b = some l → l.blk ≠ d) → w'.heap[d]? = w.heap[d]?)
    (hnew : l'.blk < w.heap.size → ∃ l, ρ b = some l ∧ l.blk = l'.blk) :
    Rep (ρ.put id l') (forkH H id i m vals n pos frz c) B w' ∧ Stp id ρ H w (ρ.put id l') (forkH H id i m vals n pos frz c) w' := by
  have hle := Env.le_put hid l'
  have hcl : c.blk.live = true := by cases c; rfl
  have hcr : c.blk.ro = false := by cases c; rfl
  obtain ⟨lb, hlb, _⟩ := R.dom b _ hk hcl
  have hfamd : ∃ x, ρ c.fam = some x := by cases c; exact R.famd b _ _ _ _ _ _ _ hk
  have hput : ∀ {x l}, (ρ.put id l') x = some l → (x = id ∧ l = l') ∨ (x ≠ id ∧ ρ x = some l) := by
    intro x l h
    by_cases hx : x = id
    · subst hx; rw [Env.put_same] at h; cases h; exact .inl ⟨rfl, rfl⟩
    · rw [Env.put_ne ρ _ hx] at h; exact .inr ⟨hx, h⟩
  have hget : ∀ {x k}, ((H.kill c.fam id i m).set id (some (.cells vals n c.esz c.fam pos frz false))).get x = some k →
      (x = id ∧ k = .cells vals n c.esz c.fam pos frz false) ∨ (x ≠ id ∧ (H.kill c.fam id i m).get x = some k) := by
    intro x k h
    by_cases hx : x = id
    · subst hx; rw [T.get_set_same] at h; cases h; exact .inl ⟨rfl, rfl⟩
    · rw [T.get_set_ne _ _ hx] at h; exact .inr ⟨hx, h⟩
  refine ⟨⟨?_, ?_, ?_, ?_, ?_, ?_, ?_, Nat.le_trans R.base hsz, ?_⟩, ⟨hle, ?_, bump_le _ _, hos, htp, hout, hsz, ?_, ?_, ?_, ?_⟩⟩
  · intro x k h lv
    rcases hget h with ⟨rfl, rfl⟩ | ⟨hx, h⟩
    · exact ⟨l', Env.put_same _ _ _, hat⟩
    · obtain ⟨l2, e2, _⟩ := R.dom x k (kill_get H _ _ _ _ x lv h) lv
      exact ⟨l2, hle x l2 e2, (hoth x k l2 hx h lv e2).move hle rfl⟩
  · intro x l h
    rcases hput h with ⟨_, rfl⟩ | ⟨_, h⟩
    · exact hlt
    · exact Nat.lt_of_lt_of_le (R.inb x l h) hsz
  · intro x k l h lv e
    rcases hget h with ⟨rfl, rfl⟩ | ⟨hx, h⟩
    · rw [Env.put_same] at e
      cases e
      exact And.intro (fun e => by cases e) (fun _ => hB)
    · rw [Env.put_ne ρ _ hx] at e
      exact R.own x k l (kill_get H _ _ _ _ x lv h) lv e
  · intro b1 b2 k1 k2 l1 l2 hne h1 h2 lv1 lv2 r1 r2 e1 e2 he
    rcases hget h1 with ⟨rfl, rfl⟩ | ⟨hb1, h1⟩
    · rw [Env.put_same] at e1
      cases e1
      rcases hget h2 with ⟨q, _⟩ | ⟨hb2, h2⟩
      · exact absurd q.symm hne
      · rw [Env.put_ne ρ _ hb2] at e2
        exact (hap b2 k2 l2 hb2 h2 lv2 r2 e2 he.symm).1
    · rw [Env.put_ne ρ _ hb1] at e1
      rcases hget h2 with ⟨rfl, rfl⟩ | ⟨hb2, h2⟩
      · rw [Env.put_same] at e2
        cases e2
        exact (hap b1 k1 l1 hb1 h1 lv1 r1 e1 he).2
      · rw [Env.put_ne ρ _ hb2] at e2
        exact R.apart b1 b2 k1 k2 l1 l2 hne (kill_get H _ _ _ _ b1 lv1 h1) (kill_get H _ _ _ _ b2 lv2 h2) lv1 lv2 r1 r2 e1 e2 he
  · intro x vals2 n2 z2 f2 p2 fz2 h
    show x ∈ (match (H.fams.set c.fam (some (id :: H.members c.fam))).get f2 with | some l => l | none => [f2])
    rw [T.get_set]
    rcases hget h with ⟨rfl, hkk⟩ | ⟨hx, h⟩
    · cases hkk
      rw [if_pos rfl]
      simp
    · have hm := R.mem x vals2 n2 z2 f2 p2 fz2 (kill_get H _ _ _ _ x rfl h)
      by_cases hf : f2 = c.fam
      · subst hf
        rw [if_pos rfl]
        exact List.mem_cons_of_mem _ hm
      · rw [if_neg hf]
        exact hm
  · intro f l h
    replace h : (H.fams.set c.fam (some (id :: H.members c.fam))).get f = some l := h
    rw [T.get_set] at h
    by_cases hf : f = c.fam
    · subst hf
      obtain ⟨x, hx⟩ := hfamd
      exact ⟨x, hle _ x hx⟩
    · rw [if_neg hf] at h
      obtain ⟨x, hx⟩ := R.famn f l h
      exact ⟨x, hle f x hx⟩
  · intro x vals2 n2 z2 f2 p2 fz2 ro h
    rcases hget h with ⟨rfl, hkk⟩ | ⟨hx, h⟩
    · cases hkk
      obtain ⟨y, hy⟩ := hfamd
      exact ⟨y, hle _ y hy⟩
    · obtain ⟨y, hy⟩ := R.famd x vals2 n2 z2 f2 p2 fz2 ro (kill_get H _ _ _ _ x rfl h)
      exact ⟨y, hle _ y hy⟩
  · intro x vals2 n2 z2 p2 fz2 ro l2 h e
    rcases hget h with ⟨rfl, hkk⟩ | ⟨hx, h⟩
    · exfalso
      obtain ⟨y, hy⟩ := hfamd
      cases hkk
      rw [hid] at hy; cases hy
    · rw [Env.put_ne ρ _ hx] at e
      exact R.root x vals2 n2 z2 p2 fz2 ro l2 (kill_get H _ _ _ _ x rfl h) e
  · intro x l h h0
    rcases hput h with ⟨rfl, _⟩ | ⟨_, h⟩
    · exact ⟨.inl rfl, lt_bump _ _⟩
    · rw [h] at h0; cases h0
  · intro d hd hno
    exact hkeep d hd fun l e => hno b c.blk l hk hcl hcr e
  · intro x k l h lv r e hl
    rcases hget h with ⟨rfl, rfl⟩ | ⟨hx, h⟩
    · rw [Env.put_same] at e
      cases e
      obtain ⟨l0, g1, g2⟩ := hnew hl
      exact ⟨b, c.blk, l0, hk, hcl, hcr, g1, g2⟩
    · rw [Env.put_ne ρ _ hx] at e
      exact ⟨x, k, l, kill_get H _ _ _ _ x lv h, lv, r, e, rfl⟩
  · intro f _ _ hno
    have hfc : f ≠ c.fam := by
      intro e
      subst e
      cases c
      exact hno b _ _ _ _ _ hk
    refine ⟨?_, ?_⟩
    · show (H.fams.set c.fam _).get f = _
      rw [T.get_set_ne _ _ hfc]
    · intro x vals2 n2 z2 p2 fz2 h
      rcases hget h with ⟨rfl, hkk⟩ | ⟨hx, h⟩
      · cases hkk; exact hfc rfl
      · exact hno x vals2 n2 z2 p2 fz2 (kill_get H _ _ _ _ x rfl h)
  · intro x k h
    rcases hget h with ⟨rfl, _⟩ | ⟨_, h⟩
    · exact .inr ⟨.inl rfl, lt_bump _ _⟩
    · exact .inl (kill_had h)
theorem fork_in (R : Rep ρ H B w) {id b : Nat} (hid : ρ id = none) {c : CB} (hk : H.blks.get b = some c.blk) {l : Loc} (hb : ρ b = some l) {off len cap k : Nat} {vals : T Value} {old new new' : List Value}
    (hold : rdN H b off (len * c.esz.n) = some old) (hnew : concL ρ new = some new') (hnl : len * c.esz.n + new.length = k * c.esz.n) (hz : 1 ≤ c.esz.n) (hlc : len ≤ cap) (hck : cap < k)
    (hend : off + cap * c.esz.n = c.n) (hfz : c.frz ≤ off + len * c.esz.n) (hroom : k ≤ cap + l.ext)
    (hvals : ∀ j, j < k * c.esz.n → vals.get j = (old ++ new)[j]?) :
    ∃ arr el lo hi, w.heap[l.blk]? = some (.cells arr el (lo, hi)) ∧ l.sh + off + k * c.esz.n ≤ arr.size ∧ (∀ j, j < new.length → ¬ (lo ≤ l.sh + off + len * c.esz.n + j ∧ l.sh + off + len * c.esz.n + j < hi)) ∧
      Rep (ρ.put id ⟨l.blk, l.sh + off, cap + l.ext - k⟩) (forkH H id (c.pos + off + len * c.esz.n) (c.pos + off + k * c.esz.n) vals (k * c.esz.n) (c.pos + off) (c.frz - off) c) B
        (setBlk w l.blk (.cells (arrPut arr (l.sh + off + len * c.esz.n) new') el (lo, hi))) ∧
      Stp id ρ H w (ρ.put id ⟨l.blk, l.sh + off, cap + l.ext - k⟩) (forkH H id (c.pos + off + len * c.esz.n) (c.pos + off + k * c.esz.n) vals (k * c.esz.n) (c.pos + off) (c.frz - off) c)
        (setBlk w l.blk (.cells (arrPut arr (l.sh + off + len * c.esz.n) new') el (lo, hi))) := by
  obtain ⟨l0, hb0, arr, el, lo, hi, hw, hsz, hcs, hel, hfr⟩ := CB.at_ R hk
  rw [hb] at hb0
  cases hb0
  have hcl : c.blk.live = true := by cases c; rfl
  have hcr : c.blk.ro = false := by cases c; rfl
  have e1 : (cap + l.ext) * c.esz.n = cap * c.esz.n + l.ext * c.esz.n := Nat.add_mul _ _ _
  have e2 : k * c.esz.n + (cap + l.ext - k) * c.esz.n = (cap + l.ext) * c.esz.n := by rw [← Nat.add_mul]; congr 1; omega
  have e3 : len * c.esz.n ≤ cap * c.esz.n := Nat.mul_le_mul_right _ hlc
  have e4 : cap * c.esz.n < k * c.esz.n := Nat.mul_lt_mul_of_pos_right hck hz
  have hnl' := concL_length hnew
  have hoid : b ≠ id := by intro e; subst e; rw [hid] at hb; cases hb
  have holdc : ∀ j, j < len * c.esz.n → ∃ v v', old[j]? = some v ∧ conc ρ v = some v' ∧ arr[l.sh + off + j]? = some v' := by
    intro j hj
    obtain ⟨kk, hkk, g0⟩ := ob_eq_some hold
    obtain ⟨p, hp, g1⟩ := ob_eq_some g0
    obtain ⟨_, g2⟩ := og_eq_some g1
    rw [hk] at hkk
    cases hkk
    have hpv : p = (c.vals, c.n) := by cases c; simp [CB.blk, asCells] at hp; exact hp.symm
    subst hpv
    have := T.take_get _ _ _ _ g2 j hj
    obtain ⟨v, v', a1, a2, a3⟩ := hcs (off + j) (by omega)
    rw [a1] at this
    exact ⟨v, v', this.symm, a2, by rw [Nat.add_assoc]; exact a3⟩
  have holdl : old.length = len * c.esz.n := by
    obtain ⟨kk, hkk, g0⟩ := ob_eq_some hold
    obtain ⟨p, hp, g1⟩ := ob_eq_some g0
    obtain ⟨_, g2⟩ := og_eq_some g1
    exact T.take_length _ _ _ _ g2
  refine ⟨arr, el, lo, hi, hw, by omega, ?_, ?_⟩
  · intro j hj
    have := hfr rfl (off + len * c.esz.n + j) (by omega) (by omega)
    rwa [← Nat.add_assoc, ← Nat.add_assoc] at this
  generalize hw' : setBlk w l.blk (.cells (arrPut arr (l.sh + off + len * c.esz.n) new') el (lo, hi)) = w'
  have hsize : w'.heap.size = w.heap.size := by rw [← hw', setBlk_size]
  have hinb := R.inb b l hb
  refine fork_rep R hid hk _ _ vals _ _ _ ⟨l.blk, l.sh + off, cap + l.ext - k⟩ ?_ ?_ ?_ ((R.own b _ l hk hcl hb).2 hcr) (by rw [hsize]; exact hinb) (by rw [hsize]; exact Nat.le_refl _)
    (by rw [← hw']; rfl) (by rw [← hw']; rfl) (by rw [← hw']; rfl) ?_ (fun _ => ⟨l, hb, rfl⟩)
  · refine ⟨arrPut arr (l.sh + off + len * c.esz.n) new', el, lo, hi, by rw [← hw']; exact setBlk_same _ hinb, by rw [arrPut_size]; simp only []; omega, ?_, hel, ?_⟩
    · intro j hj
      rw [hvals j hj]
      simp only []
      rw [arrPut_get _ _ _ (by omega)]
      by_cases hjl : j < len * c.esz.n
      · obtain ⟨v, v', a1, a2, a3⟩ := holdc j hjl
        rw [List.getElem?_append_left (by omega), if_neg (by omega)]
        exact ⟨v, v', a1, conc_mono (Env.le_put hid _) a2, a3⟩
      · obtain ⟨v, v', a1, a2, a3⟩ := concL_get hnew (i := j - len * c.esz.n) (by omega)
        rw [List.getElem?_append_right (by omega), if_pos (by omega), holdl]
        refine ⟨v, v', a1, conc_mono (Env.le_put hid _) a3, ?_⟩
        rw [← a2]; congr 1; omega
    · intro _ j hj1 hj2
      replace hj2 : j < k * c.esz.n + (cap + l.ext - k) * c.esz.n := hj2
      have := hfr rfl (off + j) (by omega) (by omega)
      simp only []
      rwa [← Nat.add_assoc] at this
  · intro b2 k2 l2 hne h2 lv h
    exact cells_other R hk hb (i := off + len * c.esz.n) (m := new.length) (by omega) (by omega) (by omega) hw hnl' (by omega) hne h2 lv h (by rw [← hw']; congr 3; omega)
  · intro b2 k2 l2 hne h2 lv r h hblk
    have h20 := kill_get H _ _ _ _ b2 lv h2
    have key : k2.beside l2 ⟨l.blk, l.sh + off, cap + l.ext - k⟩ (.cells vals (k * c.esz.n) c.esz c.fam (c.pos + off) (c.frz - off) false) ∧
        Blk.beside ⟨l.blk, l.sh + off, cap + l.ext - k⟩ l2 (.cells vals (k * c.esz.n) c.esz c.fam (c.pos + off) (c.frz - off) false) k2 := by
      by_cases hbb : b2 = b
      · subst hbb
        rw [hk] at h20
        cases h20
        rw [hb] at h
        cases h
        cases c
        exact ⟨⟨rfl, fun i1 i2 _ _ t => by simp only [CB.pos] at *; omega⟩, ⟨rfl, fun i1 i2 _ _ t => by simp only [CB.pos] at *; omega⟩⟩
      · have g := R.apart b b2 c.blk k2 l l2 (Ne.symm hbb) hk h20 hcl lv hcr r hb h hblk.symm
        cases k2 with
        | cells vals2 n2 z2 f2 p2 fz2 ro2 =>
          have g : c.fam = f2 ∧ ∀ i1 i2, i1 < c.n + l.ext * c.esz.n → i2 < n2 + l2.ext * z2.n → l.sh + i1 = l2.sh + i2 → c.pos + i1 = p2 + i2 := by cases c; exact g
          refine ⟨⟨g.1.symm, fun i1 i2 t1 t2 t3 => ?_⟩, ⟨g.1, fun i1 i2 t1 t2 t3 => ?_⟩⟩
          · simp only [] at t2 t3
            have q2 := g.2 (off + i2) i1 (by omega) t1 (by omega)
            omega
          · simp only [] at t1 t3
            have q2 := g.2 (off + i1) i2 (by omega) t2 (by omega)
            omega
        | map _ _ => cases c; exact g.elim
        | siter _ _ => cases c; exact g.elim
        | dead => cases lv
    exact ⟨key.2, key.1⟩
  · intro d hd hno
    rw [← hw']
    exact setBlk_ne _ (Ne.symm (hno l hb))
theorem fork_out (R : Rep ρ H B w) {id b : Nat} (hid : ρ id = none) {c : CB} (hk : H.blks.get b = some c.blk) (i m : Nat) {vs vs' : List Value} (hv : concL ρ vs = some vs') (vals : T Value)
    (hvals : ∀ j, j < vs.length → vals.get j = vs[j]?) (pos frz ext : Nat) {arr : Array Value} {el : TypeId} {lo hi : Nat} (hel : el = c.esz.el)
    (g : Grow w w' (.cells arr el (lo, hi))) (ha : ∀ (i : Nat) (x : Value), vs'[i]? = some x → arr[i]? = some x) (hs : vs.length + ext * c.esz.n ≤ arr.size) (hfz : ∀ i, i < vs.length + ext * c.esz.n → ¬ (lo ≤ i ∧ i < hi)) :
    Rep (ρ.put id ⟨w.heap.size, 0, ext⟩) (forkH H id i m vals vs.length pos frz c) B w' ∧ Stp id ρ H w (ρ.put id ⟨w.heap.size, 0, ext⟩) (forkH H id i m vals vs.length pos frz c) w' := by
  refine fork_rep R hid hk _ _ vals _ _ _ ⟨w.heap.size, 0, ext⟩ ?_ ?_ ?_ R.base (by rw [g.size]; exact Nat.lt_succ_self _) (by rw [g.size]; omega) g.os g.tape g.output (fun d hd _ => g.old hd) (fun h => absurd h (Nat.lt_irrefl _))
  · refine ⟨arr, el, lo, hi, g.new, by simpa using hs, ?_, hel, fun _ j _ hj => by rw [Nat.zero_add]; exact hfz j hj⟩
    intro j hj
    obtain ⟨v, v', a1, a2, a3⟩ := concL_get hv (i := j) hj
    refine ⟨v, v', by rw [hvals j hj, a1], conc_mono (Env.le_put hid _) a3, ?_⟩
    rw [Nat.zero_add]
    exact ha j v' a2
  · intro b2 k2 l2 _ h2 lv h
    obtain ⟨l2', e2', hat⟩ := R.dom b2 k2 (kill_get H _ _ _ _ b2 lv h2) lv
    rw [h] at e2'
    cases e2'
    exact hat.move (Env.le_refl ρ) (g.old (R.inb b2 l2 h))
  · intro b2 k2 l2 _ _ _ _ h hblk
    have := R.inb b2 l2 h
    simp at hblk
    omega
end Go.Ax

namespace Go.Ax
def XtOk (P : Program) (f : FuncId) : Xt → Prop
  | .fn g => ∀ args v, plainL args = true → g args = some v → ∀ w, (callFunc f ⟨args⟩).run P w = .ok (.value v) w
  | .same => ∀ x w, (callFunc f #[x]).run P w = .ok (.value x) w
  | .clone => ∀ args w, (callFunc f args).run P w = (do pure (.value (← Extern.MapsClone.clone args)) : Sem Next).run P w
structure Ctx.Ok (C : Ctx) : Prop where
  tys : ∀ t i, C.tys.get t = some i → ∃ info, C.P.info? t = some info ∧ C.P.underlying t = some i.d ∧ i.agg = isAggD i.d ∧
    i.size = info.size ∧ i.bytes = info.bytes ∧ i.methods = info.methods.toList ∧ (∀ z, i.zero = some z → plainL z = true ∧ ∃ v, info.zero = some v ∧ cellsL v = z) ∧
    (i.eqok = true → C.P.stoodInHeld t = false ∧ C.P.eqGuardType C.P.depth t = false) ∧ (∀ v, i.zval = some v → info.zero = some v ∧ plain v = true)
  fns : ∀ f g args w, C.fns.get f = some g → (callFunc f args).run C.P w = .ok (.enter f args) w
  ext : ∀ f k, C.ext.get f = some k → XtOk C.P f k
  body : ∀ f g, C.fns.get f = some g → ∃ fn c, C.P.funcs[f]? = some fn ∧ fn.body = some c ∧ g = ifn fn c
  mixed : C.P.follows .mixedOrders = true
section
variable {C : Ctx} (K : C.Ok) {ρ : Env} {H : Heap} {B : Nat} {w : World} {l : LV} {tm : T Value} {a : Act} {id : Nat}
include K
theorem Ctx.Ok.und {t : TypeId} {d : TypeDesc} (h : C.und t = some d) : C.P.underlying t = some d := by
  obtain ⟨i, h1, h2⟩ := ob_eq_some h
  obtain ⟨info, _, h3, _⟩ := K.tys t i h1
  cases h2
  exact h3
theorem Ctx.Ok.run_und {t : TypeId} {d : TypeDesc} (h : C.und t = some d) (w : World) : (underlying t).run C.P w = .ok d w := run_underlying (K.und h) w
theorem Ctx.Ok.run_und' {t : TypeId} {i : TI} (h : C.tys.get t = some i) (w : World) : (underlying t).run C.P w = .ok i.d w := by
  obtain ⟨info, _, h3, _⟩ := K.tys t i h
  exact run_underlying h3 w
theorem Ctx.Ok.run_info {t : TypeId} {i : TI} (h : C.tys.get t = some i) (w : World) : ∃ info, (typeInfo t).run C.P w = .ok info w ∧ info.size = i.size ∧ info.bytes = i.bytes ∧ info.methods.toList = i.methods ∧
    (∀ z, i.zero = some z → plainL z = true ∧ ∃ v, info.zero = some v ∧ cellsL v = z) := by
  obtain ⟨info, h1, _, _, h4, h5, h6, h7, _⟩ := K.tys t i h
  exact ⟨info, by simp [typeInfo, h1], h4.symm, h5.symm, h6.symm, h7⟩
theorem Ctx.Ok.run_size {t : TypeId} {i : TI} (h : C.tys.get t = some i) (w : World) : (sizeOf t).run C.P w = .ok i.size w := by
  obtain ⟨info, h1, h2, _⟩ := K.run_info h w
  simp [sizeOf, h1, h2]
theorem Ctx.Ok.run_isAgg {t : TypeId} {i : TI} (h : C.tys.get t = some i) (w : World) : (isAgg t).run C.P w = .ok i.agg w := by
  obtain ⟨info, _, h2, h3, _⟩ := K.tys t i h
  rw [h3]
  have hu := run_underlying h2 w
  simp only [isAgg, Sem.run_bind, hu, Result.andThen_ok]
  cases i.d <;> rfl
theorem Ctx.Ok.run_zero {t : TypeId} {i : TI} {z : List Value} (h : C.tys.get t = some i) (hz : i.zero = some z) (w : World) : ∃ v, (zeroValue t).run C.P w = .ok v w ∧ cellsL v = z ∧ plainL z = true := by
  obtain ⟨info, h1, _, _, _, h5⟩ := K.run_info h w
  obtain ⟨h6, v, h7, h8⟩ := h5 z hz
  exact ⟨v, by simp [zeroValue, h1, h7], h8, h6⟩
end
theorem cells_toList (v : Value) : v.cells.toList = cellsL v := by
  cases v <;> rfl
theorem cells_size (v : Value) : v.cells.size = (cellsL v).length := by rw [← cells_toList]; simp
structure Rel (C : Ctx) (ρ : Env) (l : LV) (tm : T Value) (a : Act) : Prop where
  tmps : ∀ t v, lookTmp t l tm = some v → ∃ v', a.tmps[t]? = some v' ∧ conc ρ v = some v'
  glob : ∀ g, g < C.ng → ∃ e, ρ g = some ⟨g, 0, e⟩
  ng : l.ng = C.ng
theorem Rel.mono {C : Ctx} {ρ ρ' : Env} {l : LV} {tm : T Value} {a : Act} (h : Rel C ρ l tm a) (k : ρ.le ρ') : Rel C ρ' l tm a where
  tmps := fun t v e => by
    obtain ⟨v', h1, h2⟩ := h.tmps t v e
    exact ⟨v', h1, conc_mono k h2⟩
  glob := fun g hg => by
    obtain ⟨e, he⟩ := h.glob g hg
    exact ⟨e, k g _ he⟩
  ng := h.ng
theorem constE_eq {v u : Value} (h : constE v = some u) : u = v ∧ plain v = true := by
  obtain ⟨h1, h2⟩ := og_eq_some h
  cases h2
  exact ⟨rfl, h1⟩
theorem look_sound {C : Ctx} {ρ : Env} {l : LV} {tm : T Value} {a : Act} (hr : Rel C ρ l tm a) {x : Operand} {v : Value} (h : look x l tm = some v) : conc ρ v = some (a.eval x) := by
  cases x with
  | tmp t =>
    obtain ⟨v', h1, h2⟩ := hr.tmps t v h
    rw [h2]
    simp [Act.eval, h1]
  | const u =>
    obtain ⟨rfl, hp⟩ := constE_eq h
    exact conc_plain ρ hp
  | global g =>
    have h : og (Nat.ble (Nat.succ g) l.ng) (some (Value.pointer (some ⟨g, 0, none⟩))) = some v := h
    obtain ⟨h1, h2⟩ := og_eq_some h
    cases h2
    obtain ⟨e, he⟩ := hr.glob g (by rw [← hr.ng]; exact Nat.le_of_ble_eq_true h1)
    simp [conc, concAddr, he, Act.eval]
  | func f =>
    have h : some (Value.func (.func f) #[] #[]) = some v := h
    cases h
    rfl
theorem looks_sound {C : Ctx} {ρ : Env} {l : LV} {tm : T Value} {a : Act} (hr : Rel C ρ l tm a) : ∀ {xs : List Operand} {vs : List Value}, looks l tm xs = some vs → concL ρ vs = some (xs.map a.eval)
  | [], vs, h => by
    have h : some [] = some vs := h
    cases h; rfl
  | x :: xs, vs, h => by
    obtain ⟨v, h1, h2⟩ := ob_eq_some (o := look x l tm) (k := fun v => ob (looks l tm xs) fun vs => some (v :: vs)) h
    obtain ⟨us, h3, h4⟩ := ob_eq_some h2
    cases h4
    simp [concL, look_sound hr h1, looks_sound hr h3]
theorem asPtr_eq {v : Value} {p : Nat × Nat} (h : asPtr v = some p) : v = .pointer (some ⟨p.1, p.2, none⟩) := by
  unfold asPtr at h
  split at h <;> cases h
  rfl
theorem asInt_eq {v : Value} {p : IntKind × Int} (h : asInt v = some p) : v = .int p.1 p.2 := by
  unfold asInt at h
  split at h <;> cases h
  rfl
theorem asNat_eq {v : Value} {n : Nat} (h : asNat v = some n) : ∃ k, v = .int k (n : Int) := by
  unfold asNat at h
  split at h <;> cases h
  exact ⟨_, rfl⟩
theorem asBool_eq {v : Value} {b : Bool} (h : asBool v = some b) : v = .bool b := by
  unfold asBool at h
  split at h <;> cases h
  rfl
theorem asStr_eq {v : Value} {s : List UInt8} (h : asStr v = some s) : v = .string ⟨⟨s⟩⟩ := by
  unfold asStr at h
  split at h <;> cases h
  rfl
theorem asAgg_eq {v : Value} {s : List Value} (h : asAgg v = some s) : v = .agg ⟨s⟩ := by
  unfold asAgg at h
  split at h <;> cases h
  rfl
theorem asTup_eq {v : Value} {s : List Value} (h : asTup v = some s) : v = .tuple ⟨s⟩ := by
  unfold asTup at h
  split at h <;> cases h
  rfl
theorem asSl_eq {d : TypeDesc} {e : TypeId} (h : asSl d = some e) : d = .slice e := by cases d <;> simp [asSl] at h; subst h; rfl
theorem asArr_eq {d : TypeDesc} {p : Nat × TypeId} (h : asArr d = some p) : d = .array p.1 p.2 := by cases d <;> simp [asArr] at h; subst h; rfl
theorem asMp_eq {d : TypeDesc} {p : TypeId × TypeId} (h : asMp d = some p) : d = .map p.1 p.2 := by cases d <;> simp [asMp] at h; subst h; rfl
theorem asStruct_eq {d : TypeDesc} {fs : List Field} (h : asStruct d = some fs) : d = .struct ⟨fs⟩ := by
  cases d <;> simp [asStruct] at h; subst h; rfl
def Post (C : Ctx) (id : Nat) (ρ : Env) (H : Heap) (B : Nat) (w : World) (s : Sem Next) : ORes → Prop
  | .val v H' => ∃ ρ' v' w', s.run C.P w = .ok (.value v') w' ∧ conc ρ' v = some v' ∧ Rep ρ' H' B w' ∧ Stp id ρ H w ρ' H' w'
  | .unit H' => ∃ ρ' w', s.run C.P w = .ok .skip w' ∧ Rep ρ' H' B w' ∧ Stp id ρ H w ρ' H' w'
  | .enter f args => ∃ args', s.run C.P w = .ok (.enter f ⟨args'⟩) w ∧ concL ρ args = some args'
def Val (C : Ctx) (ρ : Env) (w : World) (s : Sem Value) (v : Value) : Prop := ∃ v', s.run C.P w = .ok v' w ∧ conc ρ v = some v'
theorem Val.post {C : Ctx} {id : Nat} {ρ : Env} {H : Heap} {B : Nat} {w : World} {s : Sem Value} {v : Value} (R : Rep ρ H B w) (h : Val C ρ w s v) :
    Post C id ρ H B w (do pure (.value (← s))) (.val v H) := by
  obtain ⟨v', h1, h2⟩ := h
  exact ⟨ρ, v', w, by simp [h1], h2, R, Stp.refl _ _ _ _⟩
theorem wrap1_eq {H : Heap} {o : Option Value} {r : ORes} (h : wrap1 H o = some r) : ∃ v, o = some v ∧ r = .val v H := by
  obtain ⟨v, h1, h2⟩ := ob_eq_some h
  cases h2
  exact ⟨v, h1, rfl⟩
theorem wrap0_eq {o : Option Heap} {r : ORes} (h : wrap0 o = some r) : ∃ H, o = some H ∧ r = .unit H := by
  obtain ⟨v, h1, h2⟩ := ob_eq_some h
  cases h2
  exact ⟨v, h1, rfl⟩
theorem conc_ptr {ρ : Env} {b off : Nat} {v' : Value} (h : conc ρ (.pointer (some ⟨b, off, none⟩)) = some v') : ∃ l, ρ b = some l ∧ v' = .pointer (some ⟨l.blk, l.sh + off, none⟩) := by
  cases hb : ρ b with
  | none => simp [conc, concAddr, hb] at h
  | some l => simp [conc, concAddr, hb] at h; exact ⟨l, rfl, h.symm⟩
theorem conc_ptr_mk {ρ : Env} {b off : Nat} {l : Loc} (h : ρ b = some l) : conc ρ (.pointer (some ⟨b, off, none⟩)) = some (.pointer (some ⟨l.blk, l.sh + off, none⟩)) := by
  simp [conc, concAddr, h]
theorem conc_int {ρ : Env} (k : IntKind) (n : Int) : conc ρ (.int k n) = some (.int k n) := by simp [conc]
theorem conc_bool {ρ : Env} (b : Bool) : conc ρ (.bool b) = some (.bool b) := by simp [conc]
theorem conc_string {ρ : Env} (s : ByteArray) : conc ρ (.string s) = some (.string s) := by simp [conc]
theorem conc_agg {ρ : Env} {cs : List Value} {v' : Value} (h : conc ρ (.agg ⟨cs⟩) = some v') : ∃ cs', concL ρ cs = some cs' ∧ v' = .agg ⟨cs'⟩ := by
  cases hb : concL ρ cs with
  | none => simp [conc, concA, hb] at h
  | some l => simp [conc, concA, hb] at h; exact ⟨l, rfl, h.symm⟩
theorem conc_agg_mk {ρ : Env} {cs cs' : List Value} (h : concL ρ cs = some cs') : conc ρ (.agg ⟨cs⟩) = some (.agg ⟨cs'⟩) := by simp [conc, concA, h]
theorem conc_tuple {ρ : Env} {cs : List Value} {v' : Value} (h : conc ρ (.tuple ⟨cs⟩) = some v') : ∃ cs', concL ρ cs = some cs' ∧ v' = .tuple ⟨cs'⟩ := by
  cases hb : concL ρ cs with
  | none => simp [conc, concA, hb] at h
  | some l => simp [conc, concA, hb] at h; exact ⟨l, rfl, h.symm⟩
theorem conc_tuple_mk {ρ : Env} {cs cs' : List Value} (h : concL ρ cs = some cs') : conc ρ (.tuple ⟨cs⟩) = some (.tuple ⟨cs'⟩) := by simp [conc, concA, h]
theorem conc_cells {ρ : Env} {v v' : Value} (h : conc ρ v = some v') : concL ρ (cellsL v) = some (cellsL v') := by
  have hs : ∀ (u u' : Value), cellsL u = [u] → cellsL u' = [u'] → conc ρ u = some u' → concL ρ (cellsL u) = some (cellsL u') := by
    intro u u' h1 h2 h3
    rw [h1, h2]
    simp [concL, h3]
  cases v with
  | agg cs =>
    cases cs with
    | mk cs =>
      obtain ⟨cs', h1, rfl⟩ := conc_agg h
      exact h1
  | pointer a => cases a with
    | none => simp [conc] at h; subst h; rfl
    | some a => exact hs _ _ rfl (by simp only [conc] at h; split at h <;> cases h; rfl) h
  | slice a l c => cases a with
    | none => simp [conc] at h; subst h; simp [cellsL, concL, conc]
    | some a => exact hs _ _ rfl (by simp only [conc, concSlice] at h; split at h <;> cases h; rfl) h
  | map r => cases r with
    | none => simp [conc] at h; subst h; rfl
    | some a => exact hs _ _ rfl (by simp only [conc] at h; split at h <;> cases h; rfl) h
  | chan r => cases r with
    | none => simp [conc] at h; subst h; rfl
    | some a => simp [conc] at h
  | func fn x y => exact hs _ _ rfl (by cases h1 : concA ρ x <;> cases h2 : concA ρ y <;> cases fn <;> simp [conc, h1, h2] at h <;> subst h <;> rfl) h
  | iface t v => exact hs _ _ rfl (by simp only [conc] at h; split at h <;> cases h; rfl) h
  | tuple cs => exact hs _ _ rfl (by simp only [conc] at h; split at h <;> cases h; rfl) h
  | bool _ => simp [conc] at h; subst h; simp [cellsL, concL, conc]
  | int _ _ => simp [conc] at h; subst h; simp [cellsL, concL, conc]
  | float _ _ => simp [conc] at h; subst h; simp [cellsL, concL, conc]
  | complex _ _ _ => simp [conc] at h; subst h; simp [cellsL, concL, conc]
  | string _ => simp [conc] at h; subst h; simp [cellsL, concL, conc]
  | nilFunc => simp [conc] at h; subst h; rfl
  | nilIface => simp [conc] at h; subst h; rfl
section
variable {C : Ctx} (K : C.Ok) {ρ : Env} {H : Heap} {B : Nat} {w : World} {l : LV} {tm : T Value} {a : Act} {id : Nat}
include K
theorem ld_sound (R : Rep ρ H B w) {t : TypeId} {p v p' : Value} (h : ldE C H t p = some v) (hp : conc ρ p = some p') :
    ∃ b, p' = .pointer (some b) ∧ Val C ρ w (loadVar t b) v := by
  obtain ⟨q, h1, h2⟩ := ob_eq_some h
  obtain ⟨i, h3, h4⟩ := ob_eq_some h2
  have := asPtr_eq h1
  subst this
  obtain ⟨lo, hl, rfl⟩ := conc_ptr hp
  refine ⟨_, rfl, ?_⟩
  unfold Val loadVar
  simp only [Sem.run_bind, K.run_isAgg h3, Result.andThen_ok]
  unfold ld2 at h4
  cases hag : i.agg with
  | false =>
    rw [hag] at h4
    obtain ⟨l2, v', e1, e2, e3⟩ := rd_sound R h4
    rw [hl] at e1
    cases e1
    refine ⟨v', ?_, e2⟩
    simp [e3]
  | true =>
    rw [hag] at h4
    obtain ⟨vs, e0, e1⟩ := ob_eq_some h4
    cases e1
    obtain ⟨l2, vs', f1, f2, f3, f4⟩ := rdN_sound R e0
    rw [hl] at f1
    cases f1
    refine ⟨.agg ⟨vs'⟩, ?_, conc_agg_mk f2⟩
    have hload := run_loadCells_list (P := C.P) w ⟨lo.blk, lo.sh + q.2, none⟩ vs' (fun j x hx => by rw [addr_add]; exact f4 j x hx)
    rw [f3] at hload
    simp [K.run_size h3, hload]
theorem opLoad_sound (R : Rep ρ H B w) (hr : Rel C ρ l tm a) {t : TypeId} {x : Operand} {r : ORes} (h : opLoad t x C l tm id H = some r) :
    Post C id ρ H B w (do pure (.value (← Instr.loadAt t (a.eval x)))) r := by
  obtain ⟨v, h1, rfl⟩ := wrap1_eq h
  obtain ⟨p, h2, h3⟩ := ob_eq_some h1
  obtain ⟨b, h4, h5⟩ := ld_sound K R h3 (look_sound hr h2)
  refine Val.post R ?_
  obtain ⟨v', h6, h7⟩ := h5
  exact ⟨v', by simp [Instr.loadAt, Instr.sureAddr, h4, h6], h7⟩
theorem st_sound (R : Rep ρ H B w) {t : TypeId} {p v p' v' : Value} {H' : Heap} (h : stE C H t p v = some H') (hp : conc ρ p = some p') (hv : conc ρ v = some v') :
    ∃ b, p' = .pointer (some b) ∧ ∃ w', (storeVar t b v').run C.P w = .ok () w' ∧ Rep ρ H' B w' ∧ Stp id ρ H w ρ H' w' := by
  obtain ⟨q, h1, h2⟩ := ob_eq_some h
  obtain ⟨i, h3, h4⟩ := ob_eq_some h2
  obtain ⟨h5, h6⟩ := og_eq_some h4
  have hsz := Nat.eq_of_beq_eq_true h5
  obtain ⟨k, h7, h8⟩ := ob_eq_some h6
  obtain ⟨c, h9, h10⟩ := ob_eq_some h8
  obtain ⟨g1, h11⟩ := og_eq_some h10
  obtain ⟨g2, h12⟩ := og_eq_some h11
  obtain ⟨g3, h13⟩ := og_eq_some h12
  cases h13
  have := asPtr_eq h1
  subst this
  obtain ⟨lo, hl, rfl⟩ := conc_ptr hp
  have := asRw_eq h9
  subst this
  have hcv := conc_cells hv
  obtain ⟨l2, arr, el, flo, fhi, e1, e2, e3, e4, e5, e6⟩ := wr_sound R h7 (Nat.le_of_ble_eq_true g1) (Nat.le_of_ble_eq_true g2) hcv id
  rw [hl] at e1
  cases e1
  have hlen := concL_length hcv
  have hones : ∀ x ∈ cellsL v', one x = true := by
    intro x hx
    obtain ⟨j, hj⟩ := List.getElem?_of_mem hx
    have hjl : j < (cellsL v).length := by
      rw [← hlen]
      rcases Nat.lt_or_ge j (cellsL v').length with g | g
      · exact g
      · rw [List.getElem?_eq_none g] at hj; cases hj
    obtain ⟨u, u', a1, a2, a3⟩ := concL_get hcv hjl
    rw [a2] at hj
    cases hj
    rw [conc_one a3]
    exact (ones_iff _).1 g3 u (List.mem_of_getElem? a1)
  refine ⟨_, rfl, _, ?_, e5, e6⟩
  have hst := run_storeCells C.P lo.blk el flo fhi (cellsL v') w (lo.sh + q.2) 0 arr e2 hones (by rw [hlen]; simpa using e3) (by rw [hlen]; simpa using e4)
  have hsize : v'.cells.size = i.size := by rw [cells_size, hlen]; exact hsz
  unfold storeVar
  simp only [Sem.run_bind, K.run_size h3, Result.andThen_ok, hsize]
  simp only [ne_eq, not_true_eq_false, if_false]
  rw [cells_toList]
  simpa using hst
theorem opStore_sound (R : Rep ρ H B w) (hr : Rel C ρ l tm a) {t : TypeId} {x y : Operand} {r : ORes} (h : opStore t x y C l tm id H = some r) :
    Post C id ρ H B w (do Instr.storeAt t (a.eval x) (a.eval y); pure .skip) r := by
  obtain ⟨H', h1, rfl⟩ := wrap0_eq h
  obtain ⟨p, h2, h3⟩ := ob_eq_some h1
  obtain ⟨v, h4, h5⟩ := ob_eq_some h3
  obtain ⟨b, h6, w', h7, h8, h9⟩ := st_sound (id := id) K R h5 (look_sound hr h2) (look_sound hr h4)
  exact ⟨ρ, w', by simp [Instr.storeAt, Instr.sureAddr, h6, h7], h8, h9⟩
omit K in
theorem box1_sound (R : Rep ρ H B w) (hid : ρ id = none) {t : TypeId} {i : TI} (_ : C.tys.get t = some i) {vs vs' : List Value} (hv : concL ρ vs = some vs') {u : Value} (hu : cellsL u = vs') {r : ORes} (h : box1 H id t vs i.size = some r) :
    Post C id ρ H B w (do pure (.value (.pointer (some (← newVar t u))))) r := by
  obtain ⟨_, h1⟩ := og_eq_some h
  obtain ⟨_, h2⟩ := og_eq_some h1
  cases h2
  have hlen := concL_length hv
  obtain ⟨e1, e2⟩ := newCells_sound (H := H) (w' := w.alloc (.cells u.cells t)) R hid hv ⟨i.size, t⟩ 0 (arr := u.cells) (el := t) (lo := 0) (hi := 0) rfl (Grow.alloc w _)
    (fun j x hx => by rw [← hu, ← cells_toList] at hx; simpa using hx) (by rw [cells_size, hu, hlen]; simp) (fun j _ hj => by omega)
  refine ⟨_, .pointer (some ⟨w.heap.size, 0, none⟩), w.alloc (.cells u.cells t), ?_, ?_, e1, e2⟩
  · simp [newVar, newRow]
  · rw [conc_ptr_mk (Env.put_same _ _ _)]
theorem opAlloc_sound (R : Rep ρ H B w) (hid : ρ id = none) {t : TypeId} {r : ORes} (h : opAlloc t C l tm id H = some r) :
    Post C id ρ H B w (do pure (.value (← Instr.alloc t true (.tuple #[])))) r := by
  obtain ⟨i, h1, h2⟩ := ob_eq_some h
  obtain ⟨z, h3, h4⟩ := ob_eq_some h2
  obtain ⟨v, h5, h6, h7⟩ := K.run_zero h1 h3 w
  have := box1_sound (C := C) R hid h1 (concL_plain ρ h7) h6 h4
  cases r with
  | val v2 H' =>
    obtain ⟨ρ', v', w', e1, e2⟩ := this
    refine ⟨ρ', v', w', ?_, e2⟩
    rw [← e1]
    simp [Instr.alloc, h5]
  | unit H' => obtain ⟨_, h8⟩ := og_eq_some h4; obtain ⟨_, h9⟩ := og_eq_some h8; cases h9
  | enter f args => obtain ⟨_, h8⟩ := og_eq_some h4; obtain ⟨_, h9⟩ := og_eq_some h8; cases h9
omit K in
theorem opBox_sound (R : Rep ρ H B w) (hr : Rel C ρ l tm a) (hid : ρ id = none) {t : TypeId} {x : Operand} {r : ORes} (h : opBox t x C l tm id H = some r) :
    Post C id ρ H B w (do pure (.value (← Instr.box t (a.eval x)))) r := by
  obtain ⟨v, h1, h2⟩ := ob_eq_some h
  obtain ⟨i, h3, h4⟩ := ob_eq_some h2
  have := box1_sound (C := C) R hid h3 (conc_cells (look_sound hr h1)) rfl h4
  cases r with
  | val v2 H' =>
    obtain ⟨ρ', v', w', e1, e2⟩ := this
    exact ⟨ρ', v', w', by rw [← e1]; simp [Instr.box], e2⟩
  | unit H' => obtain ⟨_, h8⟩ := og_eq_some h4; obtain ⟨_, h9⟩ := og_eq_some h8; cases h9
  | enter f args => obtain ⟨_, h8⟩ := og_eq_some h4; obtain ⟨_, h9⟩ := og_eq_some h8; cases h9
end
end Go.Ax

namespace Go.Ax
theorem pureE_run {α : Type} (P : Program) : ∀ (s : Sem α) {x : α}, pureE P s = some x → ∀ w, s.run P w = .ok x w
  | .pure a, x, h, w => by cases h; rfl
  | .program k, x, h, w => pureE_run P (k P) (x := x) h w
  | .load .., _, h, _ => by cases h
  | .store .., _, h, _ => by cases h
  | .new .., _, h, _ => by cases h
  | .shape .., _, h, _ => by cases h
  | .freeze .., _, h, _ => by cases h
  | .frozen .., _, h, _ => by cases h
  | .getObj .., _, h, _ => by cases h
  | .setObj .., _, h, _ => by cases h
  | .choose .., _, h, _ => by cases h
  | .sys .., _, h, _ => by cases h
  | .mark .., _, h, _ => by cases h
  | .halt .., _, h, _ => by cases h
theorem plainE_run {P : Program} {s : Sem Value} {v : Value} (h : plainE P s = some v) : (∀ w, s.run P w = .ok v w) ∧ plain v = true := by
  obtain ⟨u, h1, h2⟩ := ob_eq_some h
  obtain ⟨rfl, h3⟩ := constE_eq h2
  exact ⟨pureE_run P s h1, h3⟩
def IntOk (op : BinOp) (P : Program) (k : IntKind) (x y : Int) (v : Value) : Prop := ∀ t w, (binOp op t (.int k x) (.int k y)).run P w = .ok v w ∧ plain v = true
theorem binOp_any (op : BinOp) (t u : TypeId) (k k' : IntKind) (x y : Int) : binOp op t (.int k x) (.int k' y) = binOp op u (.int k x) (.int k' y) := by
  cases op <;> rfl
theorem genI_ok {op : BinOp} {P : Program} {k : IntKind} {x y : Int} {v : Value} (h : genI op P k x y = some v) : IntOk op P k x y v := by
  obtain ⟨h1, h2⟩ := plainE_run h
  intro t w
  rw [binOp_any op t 0]
  exact ⟨h1 w, h2⟩
theorem wrap_fit (k : IntKind) (s : Nat) (h : s ≤ top k) : k.wrap (s : Int) = s := by
  cases k <;> simp only [top] at h <;> simp [IntKind.wrap, IntKind.bits, IntKind.signed] <;> omega
theorem fitI_ok {op : BinOp} {P : Program} {k : IntKind} {x y : Int} {v : Value} {s : Nat} {d : Option Value} (h : fitI k s d = some v) (hd : d = some v → IntOk op P k x y v)
    (hs : s ≤ top k → IntOk op P k x y (.int k s)) : IntOk op P k x y v := by
  unfold fitI at h
  cases hb : Nat.ble s (top k) with
  | false => rw [hb] at h; exact hd h
  | true =>
    rw [hb] at h
    have h : natF s (fun s => some (Value.int k (.ofNat s))) = some v := h
    rw [natF_eq] at h
    cases h
    exact hs (Nat.le_of_ble_eq_true hb)
theorem onNats_ok {op : BinOp} {P : Program} {k : IntKind} {x y : Int} {v : Value} {f : IntKind → Nat → Nat → Option Value → Option Value} (h : onNats op f P k x y = some v)
    (hf : ∀ (m n : Nat), x = (m : Int) → y = (n : Int) → f k m n (genI op P k (m : Int) (n : Int)) = some v → IntOk op P k (m : Int) (n : Int) v) : IntOk op P k x y v := by
  cases x with
  | negSucc m => exact genI_ok h
  | ofNat m =>
    cases y with
    | negSucc n => exact genI_ok h
    | ofNat n => exact hf m n rfl rfl h
theorem run_arith (op : BinOp) (P : Program) (k : IntKind) (x y : Int) (v : Value) (h : ∀ t w, (binOp op t (.int k x) (.int k y)).run P w = .ok v w) (hp : plain v = true) : IntOk op P k x y v :=
  fun t w => ⟨h t w, hp⟩
theorem someB_eq {b : Bool} {v : Value} (h : someB b = some v) : v = .bool b := by
  cases b <;> (have h : some _ = some v := h; cases h; rfl)
theorem plain_int (k : IntKind) (n : Int) : plain (.int k n) = true := by simp [plain]
theorem plain_bool (b : Bool) : plain (.bool b) = true := by simp [plain]
theorem cmp_ok {op : BinOp} {P : Program} {k : IntKind} {x y : Int} {b c : Bool} {v : Value} (h : someB b = some v) (hb : ∀ t, binOp op t (.int k x) (.int k y) = pure (.bool c)) (e : c = b) : IntOk op P k x y v := by
  have := someB_eq h
  subst this
  subst e
  exact fun t w => ⟨by rw [hb]; rfl, plain_bool _⟩
theorem beq_dec (m n : Nat) : Nat.beq m n = decide ((m : Int) = n) := by
  rw [Bool.eq_iff_iff, Nat.beq_eq, decide_eq_true_iff]; omega
theorem ble_dec (m n : Nat) : Nat.ble m n = decide ((m : Int) ≤ n) := by
  rw [Bool.eq_iff_iff, Nat.ble_eq, decide_eq_true_iff]; omega
theorem intOp_ok {op : BinOp} {P : Program} {k : IntKind} {x y : Int} {v : Value} (h : intOp op P k x y = some v) : IntOk op P k x y v := by
  cases op with
  | add =>
    refine onNats_ok (f := fun k m n d => fitI k (Nat.add m n) d) h fun m n _ _ h => fitI_ok h genI_ok fun hs => run_arith _ _ _ _ _ _ (fun t w => ?_) (plain_int _ _)
    rw [binOp_add]
    show Result.ok (Value.int k (k.wrap _)) w = _
    rw [show ((m : Int) + (n : Int)) = ((m + n : Nat) : Int) from by omega, wrap_fit k (m + n) hs]
    rfl
  | sub =>
    refine onNats_ok (f := fun k m n d => Bool.rec (motive := fun _ => Option Value) d (fitI k (Nat.sub m n) d) (Nat.ble n m)) h fun m n _ _ h => ?_
    cases hb : Nat.ble n m with
    | false => rw [hb] at h; exact genI_ok h
    | true =>
      rw [hb] at h
      have hle := Nat.le_of_ble_eq_true hb
      refine fitI_ok h genI_ok fun hs => run_arith _ _ _ _ _ _ (fun t w => ?_) (plain_int _ _)
      rw [binOp_sub]
      show Result.ok (Value.int k (k.wrap _)) w = _
      rw [show ((m : Int) - (n : Int)) = ((m - n : Nat) : Int) from by omega, wrap_fit k (m - n) hs]
      rfl
  | mul =>
    refine onNats_ok (f := fun k m n d => fitI k (Nat.mul m n) d) h fun m n _ _ h => fitI_ok h genI_ok fun hs => run_arith _ _ _ _ _ _ (fun t w => ?_) (plain_int _ _)
    rw [binOp_mul]
    show Result.ok (Value.int k (k.wrap _)) w = _
    rw [show ((m : Int) * (n : Int)) = ((m * n : Nat) : Int) from by simp, wrap_fit k (m * n) hs]
    rfl
  | quo =>
    refine onNats_ok (f := fun k m n d => Bool.rec (motive := fun _ => Option Value) d (fitI k (Nat.div m n) d) (Nat.ble 1 n)) h fun m n _ _ h => ?_
    cases hb : Nat.ble 1 n with
    | false => rw [hb] at h; exact genI_ok h
    | true =>
      rw [hb] at h
      have hle := Nat.le_of_ble_eq_true hb
      refine fitI_ok h genI_ok fun hs => run_arith _ _ _ _ _ _ (fun t w => ?_) (plain_int _ _)
      rw [binOp_quo, Op.intDiv, if_neg (by omega)]
      show Result.ok (Value.int k (k.wrap _)) w = _
      rw [show ((m : Int).tdiv (n : Int)) = ((m / n : Nat) : Int) from rfl, wrap_fit k (m / n) hs]
      rfl
  | rem =>
    refine onNats_ok (f := fun k m n d => Bool.rec (motive := fun _ => Option Value) d (fitI k (Nat.mod m n) d) (Nat.ble 1 n)) h fun m n _ _ h => ?_
    cases hb : Nat.ble 1 n with
    | false => rw [hb] at h; exact genI_ok h
    | true =>
      rw [hb] at h
      have hle := Nat.le_of_ble_eq_true hb
      refine fitI_ok h genI_ok fun hs => run_arith _ _ _ _ _ _ (fun t w => ?_) (plain_int _ _)
      rw [binOp_rem, Op.intDiv, if_neg (by omega)]
      rfl
  | and => exact genI_ok h
  | or => exact genI_ok h
  | xor => exact genI_ok h
  | shl => exact genI_ok h
  | shr => exact genI_ok h
  | andNot => exact genI_ok h
  | eql => exact onNats_ok (f := fun _ m n _ => someB (Nat.beq m n)) h fun m n _ _ h => cmp_ok h (fun t => binOp_eql ..) (by rw [beq_dec]; exact Bool.beq_eq_decide_eq _ _)
  | neq =>
    refine onNats_ok (f := fun _ m n _ => someB (Bool.rec (motive := fun _ => Bool) true false (Nat.beq m n))) h fun m n _ _ h => cmp_ok h (fun t => binOp_neq ..) ?_
    have hb := beq_dec m n
    by_cases e : (m : Int) = n
    · rw [hb, decide_eq_true e]; simp [bne, e]
    · rw [hb, decide_eq_false e]; simp [bne, e]
  | lss => exact onNats_ok (f := fun _ m n _ => someB (Nat.ble (Nat.succ m) n)) h fun m n _ _ h => cmp_ok h (fun t => binOp_lss ..) (by rw [ble_dec]; simp only [decide_eq_decide]; omega)
  | leq => exact onNats_ok (f := fun _ m n _ => someB (Nat.ble m n)) h fun m n _ _ h => cmp_ok h (fun t => binOp_leq ..) (by rw [ble_dec])
  | gtr => exact onNats_ok (f := fun _ m n _ => someB (Nat.ble (Nat.succ n) m)) h fun m n _ _ h => cmp_ok h (fun t => binOp_gtr ..) (by rw [ble_dec]; simp only [decide_eq_decide]; omega)
  | geq => exact onNats_ok (f := fun _ m n _ => someB (Nat.ble n m)) h fun m n _ _ h => cmp_ok h (fun t => binOp_geq ..) (by rw [ble_dec])
theorem bytesEq_iff : ∀ (x y : List UInt8), bytesEq x y = (x == y)
  | [], [] => rfl
  | [], _ :: _ => rfl
  | _ :: _, [] => rfl
  | a :: x, b :: y => by
    rw [bytesEq]
    cases h : Nat.beq a.toNat b.toNat with
    | true =>
      have : a = b := UInt8.toNat_inj.1 (Nat.eq_of_beq_eq_true h)
      subst this
      rw [bytesEq_iff x y]
      simp [List.cons_beq_cons]
    | false =>
      have : a ≠ b := fun e => Nat.ne_of_beq_eq_false h (by rw [e])
      simp [List.cons_beq_cons, this]
theorem bytesLt_iff : ∀ (x y : List UInt8), bytesLt x y = Op.bytesLess x y
  | x, [] => by cases x <;> rfl
  | [], _ :: _ => rfl
  | a :: x, b :: y => by
    rw [bytesLt, Op.bytesLess]
    cases h : Nat.ble (Nat.succ a.toNat) b.toNat with
    | true =>
      have : a < b := UInt8.lt_iff_toNat_lt.2 (Nat.le_of_ble_eq_true h)
      simp [this]
    | false =>
      have h1 : ¬ a < b := fun e => by
        rw [Nat.ble_eq_true_of_le (UInt8.lt_iff_toNat_lt.1 e)] at h; cases h
      cases h2 : Nat.beq a.toNat b.toNat with
      | true =>
        have : a = b := UInt8.toNat_inj.1 (Nat.eq_of_beq_eq_true h2)
        subst this
        simp [bytesLt_iff x y]
      | false =>
        have : a ≠ b := fun e => Nat.ne_of_beq_eq_false h2 (by rw [e])
        simp [h1, this]
theorem strOp_ok {op : BinOp} {P : Program} {x y : List UInt8} {v : Value} (h : strOpE op x y = some v) (t : TypeId) (w : World) :
    (binOp op t (.string ⟨⟨x⟩⟩) (.string ⟨⟨y⟩⟩)).run P w = .ok v w ∧ plain v = true := by
  have ex : (ByteArray.mk ⟨x⟩).toList = x := ByteArray.toList_eq _
  have ey : (ByteArray.mk ⟨y⟩).toList = y := ByteArray.toList_eq _
  have hb : ∀ b : Bool, ∀ {u : Value}, someB b = some u → (Sem.pure (Value.bool b) : Sem Value).run P w = .ok u w ∧ plain u = true := by
    intro b u hu
    have := someB_eq hu
    subst this
    exact ⟨rfl, plain_bool _⟩
  have hop : binOp op t (.string ⟨⟨x⟩⟩) (.string ⟨⟨y⟩⟩) = Op.stringOp op ⟨⟨x⟩⟩ ⟨⟨y⟩⟩ := by cases op <;> rfl
  rw [hop]
  cases op <;> simp only [strOpE] at h <;> try (cases h; done)
  case add =>
    split at h <;> cases h
    rename_i hle
    have hle : x.length + y.length ≤ 9223372036854775807 := Nat.le_of_ble_eq_true hle
    refine ⟨?_, by simp [plain]⟩
    have hs : ¬ (((ByteArray.mk ⟨x⟩).size + (ByteArray.mk ⟨y⟩).size : Nat) : Int) > IntKind.i64.max := by
      rw [IntKind.max_i64]
      show ¬ (((x.length + y.length : Nat) : Int) > 9223372036854775807)
      omega
    simp only [Op.stringOp]
    rw [if_neg hs]
    show Result.ok (Value.string _) w = _
    congr 2
  case eql => have := hb _ h; simpa [Op.stringOp, ex, ey, bytesEq_iff] using this
  case neq => have := hb _ h; simpa [Op.stringOp, ex, ey, bytesEq_iff] using this
  case lss => have := hb _ h; simpa [Op.stringOp, ex, ey, bytesLt_iff] using this
  case leq => have := hb _ h; simpa [Op.stringOp, ex, ey, bytesEq_iff, bytesLt_iff] using this
  case gtr => have := hb _ h; simpa [Op.stringOp, ex, ey, bytesEq_iff, bytesLt_iff] using this
  case geq => have := hb _ h; simpa [Op.stringOp, ex, ey, bytesLt_iff] using this
end Go.Ax

namespace Go.Ax
theorem kno_inj {k k' : IntKind} (h : kno k = kno k') : k = k' := by cases k <;> cases k' <;> simp [kno] at h <;> rfl
theorem eqScalar_plain {x y : Value} {r : Bool} (h : eqScalar x y = some r) : plain x = true ∧ plain y = true := by
  unfold eqScalar at h
  split at h <;> first | (cases h; done) | simp [plain]
theorem eqScalar_run {P : Program} {t : TypeId} {d : TypeDesc} (ht : P.underlying t = some d) {x y : Value} {r : Bool} (hs : scalarD d x = true) (h : eqScalar x y = some r) (n : Nat) (w : World) :
    (Op.equalIn (n + 1) t x y).run P w = .ok r w := by
  unfold eqScalar at h
  split at h
  · rename_i k a k' b
    split at h <;> cases h
    rename_i hk
    have := kno_inj (Nat.eq_of_beq_eq_true hk)
    subst this
    cases d <;> simp [scalarD] at hs
    rename_i kd
    rw [run_equalIn_int w n t k kd a b ht]
    congr 1
    cases a <;> cases b
    · rename_i m q
      show (Int.ofNat m == Int.ofNat q) = Nat.beq m q
      rw [Bool.eq_iff_iff, beq_iff_eq, Nat.beq_eq]
      exact Int.ofNat_inj
    · rfl
    · rfl
    · rename_i m q
      show (Int.negSucc m == Int.negSucc q) = Nat.beq m q
      rw [Bool.eq_iff_iff, beq_iff_eq, Nat.beq_eq]; simp
  · rename_i a b
    cases h
    cases d <;> simp [scalarD] at hs
    rw [run_equalIn_bool w n t a b ht]
    cases a <;> cases b <;> rfl
  · rename_i a b
    cases h
    cases d <;> simp [scalarD] at hs
    rw [run_equalIn_string w n t _ _ ht, bytesEq_iff, ByteArray.toList_eq, ByteArray.toList_eq]
  · cases h
theorem scalarD_notAgg {d : TypeDesc} {x : Value} (h : scalarD d x = true) : isAggD d = false := by
  cases d <;> simp [scalarD] at h <;> rfl
section
variable {C : Ctx} (K : C.Ok)
include K
theorem part_scalar {e : TypeId} {j : TI} (hj : C.tys.get e = some j) {x : Value} (hs : scalarD j.d x = true) {cs : Array Value} {off : Nat} (hx : cs[off]? = some x) (w : World) : (part e cs off).run C.P w = .ok x w := by
  have hag : j.agg = false := by
    obtain ⟨_, _, _, h, _⟩ := K.tys e j hj
    rw [h]; exact scalarD_notAgg hs
  unfold part
  simp [K.run_isAgg hj, hag, hx]
omit K in
theorem concL_cons {ρ : Env} {x : Value} {xs l : List Value} (h : concL ρ (x :: xs) = some l) : ∃ x' xs', conc ρ x = some x' ∧ concL ρ xs = some xs' ∧ l = x' :: xs' := by
  cases h1 : conc ρ x with
  | none => simp [concL, h1] at h
  | some x' =>
    cases h2 : concL ρ xs with
    | none => simp [concL, h1, h2] at h
    | some xs' => simp [concL, h1, h2] at h; exact ⟨x', xs', rfl, rfl, h.symm⟩
theorem eqScalars_run {ρ : Env} {e : TypeId} {j : TI} (hj : C.tys.get e = some j) (n : Nat) : ∀ (xs ys : List Value) {xs' ys' : List Value} {r : Bool} (i : Nat) {X Y : Array Value},
    eqScalars j.d xs ys = some r → concL ρ xs = some xs' → concL ρ ys = some ys' → (∀ k, k < xs'.length → X[i + k]? = xs'[k]?) → (∀ k, k < ys'.length → Y[i + k]? = ys'[k]?) → ∀ w,
    (do
      let r ← forIn (List.range' i xs.length) ((none : Option Bool), ()) (fun i _ => do
        let a ← part e X (i * 1)
        let b ← part e Y (i * 1)
        let s ← Op.equalIn (n + 1) e a b
        if (!s) = true then pure (ForInStep.done (some false, ())) else pure (ForInStep.yield (none, ())))
      match r.1 with
      | some b => pure b
      | none => pure true : Sem Bool).run C.P w = .ok r w
  | [], [], xs', ys', r, i, X, Y, h, _, _, _, _, w => by
    simp [eqScalars] at h
    subst h
    simp
  | [], _ :: _, _, _, _, _, _, _, h, _, _, _, _, _ => by simp [eqScalars] at h
  | _ :: _, [], _, _, _, _, _, _, h, _, _, _, _, _ => by simp [eqScalars] at h
  | x :: xs, y :: ys, xs', ys', r, i, X, Y, h, hx, hy, hX, hY, w => by
    obtain ⟨x', xs', e1, e2, rfl⟩ := concL_cons hx
    obtain ⟨y', ys', e3, e4, rfl⟩ := concL_cons hy
    simp only [eqScalars] at h
    split at h
    · cases h
    · rename_i hs
      cases hq : eqScalar x y with
      | none => rw [hq] at h; cases h
      | some q =>
        rw [hq] at h
        obtain ⟨p1, p2⟩ := eqScalar_plain hq
        rw [conc_plain ρ p1] at e1
        rw [conc_plain ρ p2] at e3
        cases e1; cases e3
        obtain ⟨_, _, hu, _⟩ := K.tys e j hj
        have hrun := fun w => eqScalar_run hu hs hq n w
        have hsy : scalarD j.d y = true := by
          unfold eqScalar at hq
          split at hq <;> first | (cases hq; done) | (cases hd : j.d <;> simp [hd, scalarD] at hs ⊢)
        have px := fun w => part_scalar K hj hs (cs := X) (off := i * 1) (by have := hX 0 (by simp); simpa using this) w
        have py := fun w => part_scalar K hj hsy (cs := Y) (off := i * 1) (by have := hY 0 (by simp); simpa using this) w
        have hr : List.range' i (x :: xs).length = i :: List.range' (i + 1) xs.length := by simp [List.range'_succ]
        rw [hr, List.forIn_cons]
        cases q with
        | false =>
          cases h
          simp only [Sem.run_bind, px, py, hrun, Result.andThen_ok, Bool.not_false, if_true, Sem.run_pure]
        | true =>
          have := eqScalars_run hj n xs ys (i + 1) (X := X) (Y := Y) h e2 e4
            (fun k hk => by have := hX (k + 1) (by simpa using hk); rw [List.getElem?_cons_succ] at this; rw [← this]; congr 1; omega)
            (fun k hk => by have := hY (k + 1) (by simpa using hk); rw [List.getElem?_cons_succ] at this; rw [← this]; congr 1; omega) w
          simp only [Sem.run_bind, px, py, hrun, Result.andThen_ok, Bool.not_true, Bool.false_eq_true, if_false, Sem.run_pure]
          simpa using this
theorem eqFields_run {ρ : Env} (n : Nat) : ∀ (fs : List Field) (off : Nat) (xs ys : List Value) {xs' ys' : List Value} {r : Bool} {X Y : Array Value},
    eqFields C fs off xs ys = some r → concL ρ xs = some xs' → concL ρ ys = some ys' → (∀ k, k < xs'.length → X[off + k]? = xs'[k]?) → (∀ k, k < ys'.length → Y[off + k]? = ys'[k]?) → ∀ w,
    (Op.eqFields (n + 1) X Y fs).run C.P w = .ok r w
  | [], _, [], [], _, _, _, _, _, h, _, _, _, _, w => by
    simp [eqFields] at h
    subst h
    simp [Op.eqFields]
  | [], _, _ :: _, _, _, _, _, _, _, h, _, _, _, _, _ => by simp [eqFields] at h
  | [], _, [], _ :: _, _, _, _, _, _, h, _, _, _, _, _ => by simp [eqFields] at h
  | _ :: _, _, [], _, _, _, _, _, _, h, _, _, _, _, _ => by simp [eqFields] at h
  | _ :: _, _, _ :: _, [], _, _, _, _, _, h, _, _, _, _, _ => by simp [eqFields] at h
  | f :: fs, off, x :: xs, y :: ys, xs', ys', r, X, Y, h, hx, hy, hX, hY, w => by
    obtain ⟨x', xs', e1, e2, rfl⟩ := concL_cons hx
    obtain ⟨y', ys', e3, e4, rfl⟩ := concL_cons hy
    simp only [eqFields] at h
    cases hj : C.tys.get f.type with
    | none => rw [hj] at h; cases h
    | some j =>
      rw [hj] at h
      simp only [] at h
      split at h
      · cases h
      · rename_i hoff
        have hoff := Nat.eq_of_beq_eq_true hoff
        split at h
        · cases h
        · rename_i hname
          split at h
          · cases h
          · rename_i hs
            cases hq : eqScalar x y with
            | none => rw [hq] at h; cases h
            | some q =>
              rw [hq] at h
              obtain ⟨p1, p2⟩ := eqScalar_plain hq
              rw [conc_plain ρ p1] at e1
              rw [conc_plain ρ p2] at e3
              cases e1; cases e3
              obtain ⟨_, _, hu, _⟩ := K.tys f.type j hj
              have hrun := fun w => eqScalar_run hu hs hq n w
              have hsy : scalarD j.d y = true := by
                unfold eqScalar at hq
                split at hq <;> first | (cases hq; done) | (cases hd : j.d <;> simp [hd, scalarD] at hs ⊢)
              have px := fun w => part_scalar K hj hs (cs := X) (off := f.offset) (by have := hX 0 (by simp); rw [hoff]; simpa using this) w
              have py := fun w => part_scalar K hj hsy (cs := Y) (off := f.offset) (by have := hY 0 (by simp); rw [hoff]; simpa using this) w
              have hn : f.name ≠ "_" := by simpa using hname
              simp only [Op.eqFields]
              rw [if_pos hn]
              simp only [Sem.run_bind, px, py, hrun, Result.andThen_ok]
              cases q with
              | false => cases h; simp
              | true =>
                have := eqFields_run n fs (off + 1) xs ys (X := X) (Y := Y) h e2 e4
                  (fun k hk => by have := hX (k + 1) (by simpa using hk); rw [List.getElem?_cons_succ] at this; rw [← this]; congr 1; omega)
                  (fun k hk => by have := hY (k + 1) (by simpa using hk); rw [List.getElem?_cons_succ] at this; rw [← this]; congr 1; omega) w
                simpa using this
theorem eqAgg_run {ρ : Env} {t : TypeId} {xs ys xs' ys' : List Value} {r : Bool} (h : eqAgg C t xs ys = some r) (hx : concL ρ xs = some xs') (hy : concL ρ ys = some ys') (n : Nat) (w : World) :
    (Op.equalIn (n + 2) t (.agg ⟨xs'⟩) (.agg ⟨ys'⟩)).run C.P w = .ok r w ∧ C.P.eqGuardType C.P.depth t = false := by
  obtain ⟨i, hi, h1⟩ := ob_eq_some h
  obtain ⟨h2, h3⟩ := og_eq_some h1
  obtain ⟨info, _, hu, _, _, _, _, _, hq, _⟩ := K.tys t i hi
  obtain ⟨q1, q2⟩ := hq h2
  refine ⟨?_, q2⟩
  split at h3
  · rename_i n' e hd
    obtain ⟨j, hj, g1⟩ := ob_eq_some h3
    obtain ⟨g2, g3⟩ := og_eq_some g1
    obtain ⟨g4, g5⟩ := og_eq_some g3
    obtain ⟨g6, g7⟩ := og_eq_some g5
    have hsz := Nat.eq_of_beq_eq_true g2
    have hlx := Nat.eq_of_beq_eq_true g4
    rw [hd] at hu
    have key := eqScalars_run K hj n xs ys 0 (X := ⟨xs'⟩) (Y := ⟨ys'⟩) g7 hx hy (fun k _ => by simp) (fun k _ => by simp) w
    show (Op.equalIn ((n + 1) + 1) t (.agg ⟨xs'⟩) (.agg ⟨ys'⟩)).run C.P w = .ok r w
    generalize n + 1 = m at key
    simp only [Op.equalIn, Sem.run_bind, run_underlying hu, Result.andThen_ok, K.run_size hj, hsz, Std.Legacy.Range.forIn_eq_forIn_range', Std.Legacy.Range.size, Nat.sub_zero, Nat.add_one_sub_one, Nat.div_one]
    rw [← hlx]
    simp at key ⊢
    rw [← key]
    congr 1
    funext a w'
    cases a.fst <;> rfl
  · rename_i fs hd
    rw [hd] at hu
    have hf : C.P.fieldsOf t = fs := by simp [Program.fieldsOf, hu]
    rw [run_equalIn_struct w (n + 1) t _ _ (by rw [hf]; exact hu) q1, hf]
    exact eqFields_run K n fs.toList 0 xs ys h3 hx hy (fun k _ => by simp) (fun k _ => by simp) w
  · cases h3
end
end Go.Ax
