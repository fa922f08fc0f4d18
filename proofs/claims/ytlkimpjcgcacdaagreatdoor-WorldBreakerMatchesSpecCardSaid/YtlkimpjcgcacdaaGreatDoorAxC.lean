/- An evaluator of the model's code over a virtual heap, and that it is sound (part 3 of 3). -/
import Derived.Test.YtlkimpjcgcacdaaGreatDoorAxB
import Derived.Orders
import Derived.Laws.Externs
import Derived.Lib.Bytealg
import Derived.RowKit
namespace Go.Ax
theorem bitOf_eq (m a : Nat) : bitOf m a = m.testBit a := by
  show Nat.beq ((m >>> a) &&& 1) 1 = _
  rw [Nat.and_one_is_mod, Nat.shiftRight_eq_div_pow, Nat.testBit_eq_decide_div_mod_eq]
  rw [Bool.eq_iff_iff, Nat.beq_eq, decide_eq_true_iff]
theorem bitOf_or (m k a : Nat) : bitOf (Nat.lor m k) a = (bitOf m a || bitOf k a) := by
  rw [bitOf_eq, bitOf_eq, bitOf_eq]
  exact Nat.testBit_or m k a
theorem bitOf_one (i a : Nat) : bitOf (Nat.shiftLeft 1 i) a = decide (a = i) := by
  rw [bitOf_eq]
  show (1 <<< i).testBit a = _
  rw [Nat.one_shiftLeft, Nat.testBit_two_pow]
  by_cases h : i = a <;> simp [h, eq_comm]
theorem bitOf_zero (a : Nat) : bitOf 0 a = false := by rw [bitOf_eq]; simp
theorem bitOf_ones (n a : Nat) : bitOf (Nat.sub (Nat.shiftLeft 1 n) 1) a = decide (a < n) := by
  rw [bitOf_eq]
  show (1 <<< n - 1).testBit a = _
  rw [Nat.one_shiftLeft, Nat.testBit_two_pow_sub_one]
theorem within_iff (a m : Nat) : within a m = true ↔ ∀ j, bitOf a j = true → bitOf m j = true := by
  show Nat.beq (a &&& m) a = true ↔ _
  rw [Nat.beq_eq]
  constructor
  · intro h j hj
    rw [bitOf_eq] at *
    have : (a &&& m).testBit j = true := by rw [h]; exact hj
    rw [Nat.testBit_and, Bool.and_eq_true] at this
    exact this.2
  · intro h
    apply Nat.eq_of_testBit_eq
    intro j
    rw [Nat.testBit_and]
    have := h j
    rw [bitOf_eq, bitOf_eq] at this
    cases ha : a.testBit j with
    | false => rfl
    | true => rw [this ha]; rfl
def looksAt (ops : List Oper) (o : Oper) : List Nat := tmpsOf o.op.operands.toList ++ guardTmp ops o
structure MaskOk (ops : List Oper) (full : List Nat) (k : Nat) (o : Oper) (m : Nat) : Prop where
  anc : ∀ b, bitOf m b = true → ∃ e ∈ o.after.toList, bindsAny e = true ∧ (b = e.on ∨ ∃ m', full[e.on]? = some m' ∧ bitOf m' b = true)
  edge : ∀ e ∈ o.after.toList, bindsAny e = true → e.on < k ∧ bitOf m e.on = true ∧ ∃ m', full[e.on]? = some m' ∧ ∀ b, bitOf m' b = true → bitOf m b = true
  reads : ∀ t ∈ looksAt ops o, ∀ j p, j < k → ops[j]? = some p → p.dst = some t → bitOf m j = true
  writes : ∀ t, o.dst = some t → ∀ j p, j < k → ops[j]? = some p → (p.dst = some t ∨ t ∈ looksAt ops p) → bitOf m j = true
theorem ancOf_sound {full : List Nat} {ms : T Nat} {i : Nat} (hms : ∀ j, j < i → ms.get j = full[j]?) : ∀ {es : List Edge} {m : Nat}, ancOf ms i es = some m →
    (∀ b, bitOf m b = true → ∃ e ∈ es, bindsAny e = true ∧ (b = e.on ∨ ∃ m', full[e.on]? = some m' ∧ bitOf m' b = true)) ∧
    (∀ e ∈ es, bindsAny e = true → e.on < i ∧ bitOf m e.on = true ∧ ∃ m', full[e.on]? = some m' ∧ ∀ b, bitOf m' b = true → bitOf m b = true)
  | [], m, h => by
    cases h
    refine ⟨?_, ?_⟩
    · intro b hb
      rw [bitOf_zero] at hb
      cases hb
    · intro e he
      cases he
  | e :: es, m, h => by
    obtain ⟨m1, h1, h2⟩ := ob_eq_some h
    obtain ⟨i1, i2⟩ := ancOf_sound hms h1
    cases hb : bindsAny e with
    | false =>
      rw [hb] at h2
      cases h2
      refine ⟨fun b hbb => ?_, fun x hx hxb => ?_⟩
      · obtain ⟨x, hx, r⟩ := i1 b hbb
        exact ⟨x, List.mem_cons_of_mem _ hx, r⟩
      · rcases List.mem_cons.1 hx with rfl | hx
        · rw [hb] at hxb; cases hxb
        · exact i2 x hx hxb
    | true =>
      rw [hb] at h2
      obtain ⟨h3, h4⟩ := og_eq_some h2
      obtain ⟨k, h5, h6⟩ := ob_eq_some h4
      cases h6
      have hlt := Nat.le_of_ble_eq_true h3
      have hk : full[e.on]? = some k := by rw [← hms e.on hlt]; exact h5
      refine ⟨fun b hbb => ?_, fun x hx hxb => ?_⟩
      · rw [bitOf_or, bitOf_or, Bool.or_eq_true, Bool.or_eq_true] at hbb
        rcases hbb with hbb | hbb | hbb
        · obtain ⟨x, hx, r⟩ := i1 b hbb
          exact ⟨x, List.mem_cons_of_mem _ hx, r⟩
        · rw [bitOf_one, decide_eq_true_iff] at hbb
          exact ⟨e, by simp, hb, .inl hbb⟩
        · exact ⟨e, by simp, hb, .inr ⟨k, hk, hbb⟩⟩
      · rcases List.mem_cons.1 hx with rfl | hx
        · refine ⟨hlt, ?_, k, hk, fun b hbb => ?_⟩
          · rw [bitOf_or, bitOf_or, bitOf_one]; simp
          · rw [bitOf_or, bitOf_or, hbb]; simp
        · obtain ⟨g1, g2, m', g3, g4⟩ := i2 x hx hxb
          refine ⟨g1, by rw [bitOf_or, g2]; rfl, m', g3, fun b hbb => by rw [bitOf_or, g4 b hbb]; rfl⟩
theorem readsOk_iff (wr : T Nat) (m : Nat) : ∀ (ts : List Nat), readsOk wr m ts = true → ∀ t ∈ ts, within (getM wr t) m = true
  | [], _, t, h => by cases h
  | x :: ts, h, t, ht => by
    rw [readsOk] at h
    cases hx : within (getM wr x) m with
    | false => rw [hx] at h; cases h
    | true =>
      rw [hx] at h
      rcases List.mem_cons.1 ht with rfl | ht
      · exact hx
      · exact readsOk_iff wr m ts h t ht
theorem getM_set (t : T Nat) (a k : Nat) (b : Nat) : getM (t.set a (some k)) b = if b = a then k else getM t b := by
  unfold getM
  rw [T.get_set]
  by_cases h : b = a <;> simp [h]
theorem addBit_spec (i : Nat) : ∀ (ts : List Nat) (rd : T Nat) (t j : Nat), bitOf (getM (addBit i rd ts) t) j = (bitOf (getM rd t) j || decide (j = i ∧ t ∈ ts))
  | [], rd, t, j => by simp [addBit]
  | x :: ts, rd, t, j => by
    rw [addBit, addBit_spec i ts]
    rw [natF_eq, getM_set]
    by_cases hx : t = x
    · subst hx
      rw [if_pos rfl, bitOf_or, bitOf_one]
      by_cases hj : j = i <;> simp [hj]
    · rw [if_neg hx]
      simp [hx]
theorem addWr_spec (i : Nat) (wr : T Nat) (d : Option Nat) (t j : Nat) : bitOf (getM (addWr i wr d) t) j = (bitOf (getM wr t) j || decide (j = i ∧ d = some t)) := by
  cases d with
  | none => simp [addWr]
  | some d =>
    rw [addWr, natF_eq, getM_set]
    by_cases hx : t = d
    · subst hx
      rw [if_pos rfl, bitOf_or, bitOf_one]
      by_cases hj : j = i <;> simp [hj]
    · rw [if_neg hx]
      simp [Ne.symm hx]
theorem masksOf_sound (ops : List Oper) (full : List Nat) : ∀ (rest : List Oper) (i : Nat) (ms wr rd : T Nat), rest = ops.drop i → masksOf ops rest i ms wr rd = some (full.drop i) →
    (∀ j, j < i → ms.get j = full[j]?) → (∀ t j, bitOf (getM wr t) j = true ↔ j < i ∧ ∃ p, ops[j]? = some p ∧ p.dst = some t) → (∀ t j, bitOf (getM rd t) j = true ↔ j < i ∧ ∃ p, ops[j]? = some p ∧ t ∈ looksAt ops p) →
    ∀ k o, i ≤ k → ops[k]? = some o → ∃ m, full[k]? = some m ∧ MaskOk ops full k o m
  | [], i, ms, wr, rd, hr, h, hms, hwr, hrd, k, o, hk, ho => by
    have : ops.length ≤ i := List.drop_eq_nil_iff.1 hr.symm
    rw [List.getElem?_eq_none (by omega)] at ho
    cases ho
  | x :: rest, i, ms, wr, rd, hr, h, hms, hwr, hrd, k, o, hk, ho => by
    obtain ⟨m, h1, h2⟩ := ob_eq_some h
    rw [natF_eq] at h2
    obtain ⟨h3, h4⟩ := og_eq_some h2
    obtain ⟨h5, h6⟩ := og_eq_some h4
    obtain ⟨l, h7, h8⟩ := ob_eq_some h6
    have hx : ops[i]? = some x := by
      have : (ops.drop i)[0]? = some x := by rw [← hr]; rfl
      simpa using this
    have hm : full[i]? = some m := by
      have : (full.drop i)[0]? = some m := by rw [← Option.some.inj h8]; rfl
      simpa using this
    have hl : l = full.drop (i + 1) := by
      have : (full.drop i).drop 1 = l := by rw [← Option.some.inj h8]; rfl
      rw [← this, List.drop_drop]
    have hrest : rest = ops.drop (i + 1) := by
      have : (ops.drop i).drop 1 = rest := by rw [← hr]; rfl
      rw [← this, List.drop_drop]
    by_cases hki : k = i
    · subst hki
      rw [hx] at ho
      cases ho
      obtain ⟨a1, a2⟩ := ancOf_sound hms h1
      refine ⟨m, hm, ⟨a1, a2, ?_, ?_⟩⟩
      · intro t ht j p hj hp hd
        exact (within_iff _ _).1 (readsOk_iff wr m _ h3 t ht) j ((hwr t j).2 ⟨hj, p, hp, hd⟩)
      · intro t ht j p hj hp hd
        rw [ht] at h5
        unfold writeOk at h5
        simp only [] at h5
        cases hw : within (getM wr t) m with
        | false => rw [hw] at h5; cases h5
        | true =>
          rw [hw] at h5
          rcases hd with hd | hd
          · exact (within_iff _ _).1 hw j ((hwr t j).2 ⟨hj, p, hp, hd⟩)
          · exact (within_iff _ _).1 h5 j ((hrd t j).2 ⟨hj, p, hp, hd⟩)
    · refine masksOf_sound ops full rest (i + 1) _ _ _ hrest (hl ▸ h7) ?_ ?_ ?_ k o (by omega) ho
      · intro j hj
        by_cases hji : j = i
        · subst hji; rw [T.get_set_same, hm]
        · rw [T.get_set_ne _ _ hji]; exact hms j (by omega)
      · intro t j
        rw [addWr_spec, Bool.or_eq_true, hwr, decide_eq_true_iff]
        constructor
        · rintro (⟨q1, p, q2, q3⟩ | ⟨q1, q2⟩)
          · exact ⟨by omega, p, q2, q3⟩
          · exact ⟨by omega, x, by rw [q1]; exact hx, q2⟩
        · rintro ⟨q1, p, q2, q3⟩
          by_cases hji : j = i
          · rw [hji, hx] at q2; cases q2; exact .inr ⟨hji, q3⟩
          · exact .inl ⟨by omega, p, q2, q3⟩
      · intro t j
        rw [addBit_spec, Bool.or_eq_true, hrd, decide_eq_true_iff]
        constructor
        · rintro (⟨q1, p, q2, q3⟩ | ⟨q1, q2⟩)
          · exact ⟨by omega, p, q2, q3⟩
          · exact ⟨by omega, x, by rw [q1]; exact hx, q2⟩
        · rintro ⟨q1, p, q2, q3⟩
          by_cases hji : j = i
          · rw [hji, hx] at q2; cases q2; exact .inr ⟨hji, q3⟩
          · exact .inl ⟨by omega, p, q2, q3⟩
theorem masks_ok {ops : List Oper} {full : List Nat} (h : masksOf ops ops 0 .nil .nil .nil = some full) (k : Nat) (o : Oper) (ho : ops[k]? = some o) : ∃ m, full[k]? = some m ∧ MaskOk ops full k o m := by
  have hz : ∀ t j, bitOf (getM (.nil : T Nat) t) j = false := fun t j => bitOf_zero j
  refine masksOf_sound ops full ops 0 .nil .nil .nil rfl h (fun j hj => by omega) ?_ ?_ k o (Nat.zero_le _) ho
  · intro t j; rw [hz]; constructor
    · intro h; cases h
    · intro ⟨h, _⟩; omega
  · intro t j; rw [hz]; constructor
    · intro h; cases h
    · intro ⟨h, _⟩; omega
end Go.Ax

namespace Go.Ax
variable {ρ ρ' : Env} {G K G' K' : Heap} {B x : Nat} {w w' : World}
structure Waits (X : Nat → Option Blk) (K : Heap) (b : Nat) (k : Blk) : Prop where
  live : k.live = true
  rw : k.ro = false
  fam : ∀ vals n esz fam pos frz ro, k = .cells vals n esz fam pos frz ro → fam = b
  dead : ∀ k', K.blks.get b = some k' → k'.live = false
  nof : K.noFam b
  nofs : K.fams.get b = none
  lt : b < K.next
noncomputable def lies (X : Nat → Option Blk) (K : Heap) (b : Nat) : Option Blk := match X b with
  | some k => some k
  | none => K.blks.get b
theorem Rep.sub {X : Nat → Option Blk} (R : Rep ρ G B w) (hG : ∀ b, G.blks.get b = lies X K b) (hf : G.fams = K.fams) (_hn : G.next = K.next) (hX : ∀ b k, X b = some k → Waits X K b k) : Rep ρ K B w := by
  have hin : ∀ {b k}, K.blks.get b = some k → k.live = true → G.blks.get b = some k := by
    intro b k h lv
    rw [hG, lies]
    cases hx : X b with
    | none => exact h
    | some k' =>
      have := (hX b k' hx).dead k h
      rw [lv] at this; cases this
  have hmem : ∀ f, G.members f = K.members f := by intro f; simp only [Heap.members, hf]
  exact ⟨fun b k h lv => R.dom b k (hin h lv) lv, R.inb, fun b k l h lv e => R.own b k l (hin h lv) lv e,
    fun b1 b2 k1 k2 l1 l2 hne h1 h2 lv1 lv2 => R.apart b1 b2 k1 k2 l1 l2 hne (hin h1 lv1) (hin h2 lv2) lv1 lv2, fun b vals n esz fam pos frz h => hmem fam ▸ R.mem b vals n esz fam pos frz (hin h rfl),
    fun f l h => R.famn f l (hf ▸ h), fun b vals n esz fam pos frz ro h => R.famd b vals n esz fam pos frz ro (hin h rfl), R.base, fun b vals n esz pos frz ro l h e => R.root b vals n esz pos frz ro l (hin h rfl) e⟩
theorem frame_spine {X : Nat → Option Blk} (RG : Rep ρ G B w) (hG : ∀ b, G.blks.get b = lies X K b) (hf : G.fams = K.fams) (hn : G.next = K.next) (hX : ∀ b k, X b = some k → Waits X K b k) (hx : ∀ b k, X b = some k → b ≠ x)
    (RK : Rep ρ' K' B w') (S : Stp x ρ K w ρ' K' w') (hG' : ∀ b, G'.blks.get b = lies X K' b) (hf' : G'.fams = K'.fams) (hn' : G'.next = K'.next) : Rep ρ' G' B w' ∧ Stp x ρ G w ρ' G' w' := by
  have hin : ∀ {b k}, K.blks.get b = some k → k.live = true → X b = none ∧ G.blks.get b = some k := by
    intro b k h lv
    rw [hG, lies]
    cases hxb : X b with
    | none => exact ⟨rfl, h⟩
    | some k' =>
      have := (hX b k' hxb).dead k h
      rw [lv] at this; cases this
  have hwait : ∀ {b k}, X b = some k → G.blks.get b = some k := by intro b k h; rw [hG, lies, h]
  have hnew : ∀ {b k}, G'.blks.get b = some k → (X b = some k) ∨ (X b = none ∧ K'.blks.get b = some k) := by
    intro b k h
    rw [hG', lies] at h
    cases hxb : X b with
    | none => rw [hxb] at h; exact .inr ⟨rfl, h⟩
    | some k' => rw [hxb] at h; exact .inl h
  have hdis : ∀ {b k l}, X b = some k → ρ b = some l → ∀ b0 k0 l0, K.blks.get b0 = some k0 → k0.live = true → k0.ro = false → ρ b0 = some l0 → l0.blk ≠ l.blk := by
    intro b k l hb e b0 k0 l0 h0 lv0 r0 e0 heq
    obtain ⟨hx0, hg0⟩ := hin h0 lv0
    have hne : b ≠ b0 := by intro h; subst h; rw [hb] at hx0; cases hx0
    have W := hX b k hb
    have := RG.apart b b0 k k0 l l0 hne (hwait hb) hg0 W.live lv0 W.rw r0 e e0 heq.symm
    cases k with
    | cells vals n esz fam pos frz ro =>
      cases k0 with
      | cells vals0 n0 esz0 fam0 pos0 frz0 ro0 =>
        have hfam := W.fam _ _ _ _ _ _ _ rfl
        have h1 : fam = fam0 := this.1
        have hro : ro0 = false := r0
        subst hro
        rw [← h1, hfam] at h0
        exact W.nof b0 _ _ _ _ _ h0
      | map _ _ => exact this.elim
      | siter _ _ => exact this.elim
      | dead => cases lv0
    | map _ _ => cases k0 <;> exact this.elim
    | siter _ _ => cases k0 <;> exact this.elim
    | dead => have := W.live; cases this
  have hkeepX : ∀ {b k l}, X b = some k → ρ b = some l → w'.heap[l.blk]? = w.heap[l.blk]? := by
    intro b k l hb e
    exact S.keep l.blk (RG.inb b l e) (fun b0 k0 l0 h0 lv0 r0 e0 => hdis hb e b0 k0 l0 h0 lv0 r0 e0)
  have hold : ∀ {b k}, X b = some k → ∃ l, ρ b = some l ∧ ρ' b = some l ∧ BlkAt ρ w l k := by
    intro b k hb
    obtain ⟨l, e, hat⟩ := RG.dom b k (hwait hb) (hX b k hb).live
    exact ⟨l, e, S.le b l e, hat⟩
  have hcross : ∀ {b k l b2 k2 l2}, X b = some k → ρ' b = some l → K'.blks.get b2 = some k2 → k2.live = true → k2.ro = false → ρ' b2 = some l2 → l.blk ≠ l2.blk := by
    intro b k l b2 k2 l2 hb e h2 lv2 r2 e2 heq
    obtain ⟨l', e', e'', _⟩ := hold hb
    rw [e] at e''
    cases e''
    have hlt := RG.inb b l e'
    obtain ⟨b0, k0, l0, a1, a2, a3, a4, a5⟩ := S.own b2 k2 l2 h2 lv2 r2 e2 (heq ▸ hlt)
    exact hdis hb e' b0 k0 l0 a1 a2 a3 a4 (a5.trans heq.symm)
  refine ⟨⟨?_, RK.inb, ?_, ?_, ?_, fun f l h => RK.famn f l (hf' ▸ h), ?_, RK.base, ?_⟩, ⟨S.le, fun b l h1 h2 => hn' ▸ hn ▸ S.new b l h1 h2, hn ▸ hn' ▸ S.mono, S.os, S.tape, S.output, S.size, ?_, ?_, ?_, ?_⟩⟩
  · intro b k h lv
    rcases hnew h with hb | ⟨_, h⟩
    · obtain ⟨l, e, e', hat⟩ := hold hb
      exact ⟨l, e', hat.move S.le (hkeepX hb e)⟩
    · exact RK.dom b k h lv
  · intro b k l h lv e
    rcases hnew h with hb | ⟨_, h⟩
    · obtain ⟨l', e1, e2, _⟩ := hold hb
      rw [e] at e2
      cases e2
      exact RG.own b k l (hwait hb) lv e1
    · exact RK.own b k l h lv e
  · intro b1 b2 k1 k2 l1 l2 hne h1 h2 lv1 lv2 r1 r2 e1 e2 he
    rcases hnew h1 with hb1 | ⟨_, h1⟩
    · rcases hnew h2 with hb2 | ⟨_, h2⟩
      · obtain ⟨l1', f1, f2, _⟩ := hold hb1
        obtain ⟨l2', f3, f4, _⟩ := hold hb2
        rw [e1] at f2
        rw [e2] at f4
        cases f2
        cases f4
        exact RG.apart b1 b2 k1 k2 l1 l2 hne (hwait hb1) (hwait hb2) lv1 lv2 r1 r2 f1 f3 he
      · exact absurd he (hcross hb1 e1 h2 lv2 r2 e2)
    · rcases hnew h2 with hb2 | ⟨_, h2⟩
      · exact absurd he.symm (hcross hb2 e2 h1 lv1 r1 e1)
      · exact RK.apart b1 b2 k1 k2 l1 l2 hne h1 h2 lv1 lv2 r1 r2 e1 e2 he
  · intro b vals n esz fam pos frz h
    have hmem : G'.members fam = K'.members fam := by simp only [Heap.members, hf']
    rw [hmem]
    rcases hnew h with hb | ⟨_, h⟩
    · have W := hX b _ hb
      have hfam := W.fam _ _ _ _ _ _ _ rfl
      subst hfam
      have : K'.fams.get fam = none := (S.famk fam W.lt (hx _ _ hb) W.nof).1.trans W.nofs
      simp [Heap.members, this]
    · exact RK.mem b vals n esz fam pos frz h
  · intro b vals n esz fam pos frz ro h
    rcases hnew h with hb | ⟨_, h⟩
    · have hfam := (hX b _ hb).fam _ _ _ _ _ _ _ rfl
      subst hfam
      obtain ⟨l, _, e, _⟩ := hold hb
      exact ⟨l, e⟩
    · exact RK.famd b vals n esz fam pos frz ro h
  · intro b vals n esz pos frz ro l h e
    rcases hnew h with hb | ⟨_, h⟩
    · obtain ⟨l', e1, e2, _⟩ := hold hb
      rw [e] at e2
      cases e2
      exact RG.root b vals n esz pos frz ro l (hwait hb) e1
    · exact RK.root b vals n esz pos frz ro l h e
  · intro c hc hno
    exact S.keep c hc fun b k l h lv r e => hno b k l (hin h lv).2 lv r e
  · intro b k l h lv r e hlt
    rcases hnew h with hb | ⟨_, h⟩
    · obtain ⟨l', e1, e2, _⟩ := hold hb
      rw [e] at e2
      cases e2
      exact ⟨b, k, l, hwait hb, lv, r, e1, rfl⟩
    · obtain ⟨b0, k0, l0, a1, a2, a3, a4, a5⟩ := S.own b k l h lv r e hlt
      exact ⟨b0, k0, l0, (hin a1 a2).2, a2, a3, a4, a5⟩
  · intro f hfl hfx hno
    have hnoK : K.noFam f := fun b vals n esz pos frz h => hno b vals n esz pos frz (hin h rfl).2
    obtain ⟨g1, g2⟩ := S.famk f (hn ▸ hfl) hfx hnoK
    refine ⟨by rw [hf', g1, hf], ?_⟩
    intro b vals n esz pos frz h
    rcases hnew h with hb | ⟨_, h⟩
    · exact hno b vals n esz pos frz (hwait hb)
    · exact g2 b vals n esz pos frz h
  · intro b k h
    rcases hnew h with hb | ⟨_, h⟩
    · exact .inl ⟨k, hwait hb⟩
    · rcases S.blk b k h with ⟨k0, g⟩ | ⟨g | g, g2⟩
      · refine .inl ?_
        cases hxb : X b with
        | none => exact ⟨k0, by rw [hG, lies, hxb]; exact g⟩
        | some k1 => exact ⟨k1, hwait hxb⟩
      · exact .inr ⟨.inl g, hn' ▸ g2⟩
      · exact .inr ⟨.inr (hn ▸ g), hn' ▸ g2⟩
theorem nil_get {b : Nat} {k : Blk} (h : (T.nil : T Blk).get b = some k) : False := by cases h
theorem nil_gets {b : Nat} {k : List Nat} (h : (T.nil : T (List Nat)).get b = some k) : False := by cases h
theorem Rep.none (R : Rep ρ G B w) (n : Nat) : Rep ρ ⟨.nil, .nil, n⟩ B w where
  dom := fun _ _ h => (nil_get h).elim
  inb := R.inb
  own := fun _ _ _ h => (nil_get h).elim
  apart := fun _ _ _ _ _ _ _ h => (nil_get h).elim
  mem := fun _ _ _ _ _ _ _ h => (nil_get h).elim
  famn := fun _ _ h => (nil_gets h).elim
  famd := fun _ _ _ _ _ _ _ _ h => (nil_get h).elim
  base := R.base
  root := fun _ _ _ _ _ _ _ _ h => (nil_get h).elim
theorem waits_eq {id : Nat} {k : Blk} (h : waits id (some k) = true) : k.live = true ∧ k.ro = false ∧ ∀ vals n esz fam pos frz ro, k = .cells vals n esz fam pos frz ro → fam = id := by
  cases k with
  | cells vals n esz fam pos frz ro =>
    simp only [waits, Bool.and_eq_true, Bool.not_eq_true'] at h
    refine ⟨rfl, h.2, ?_⟩
    intro _ _ _ _ _ _ _ e
    cases e
    exact Nat.eq_of_beq_eq_true h.1
  | map _ _ => exact ⟨rfl, rfl, fun _ _ _ _ _ _ _ e => by cases e⟩
  | siter _ _ => exact ⟨rfl, rfl, fun _ _ _ _ _ _ _ e => by cases e⟩
  | dead => cases h
theorem frame_float {N : Nat} {E' : Heap} (RG : Rep ρ G B w) (RE : Rep ρ' E' B w') (S : Stp x ρ ⟨.nil, .nil, N⟩ w ρ' E' w') (hN : E'.next ≤ N) (hNG : N ≤ G.next) (hx : ρ x = none) (hxl : x < N)
    (hw : waits x (E'.blks.get x) = true) (hG' : ∀ b, G'.blks.get b = if b = x then (match E'.blks.get x with | some k => some k | none => G.blks.get b) else G.blks.get b) (hf' : G'.fams = G.fams) (hn' : G'.next = G.next) :
    Rep ρ' G' B w' ∧ Stp x ρ G w ρ' G' w' := by
  have hnew : ∀ {b k}, G'.blks.get b = some k → (b = x ∧ E'.blks.get x = some k) ∨ (G.blks.get b = some k ∧ (b ≠ x ∨ E'.blks.get x = none)) := by
    intro b k h
    rw [hG'] at h
    by_cases hb : b = x
    · rw [if_pos hb] at h
      cases he : E'.blks.get x with
      | none => rw [he] at h; exact .inr ⟨h, .inr rfl⟩
      | some k' => rw [he] at h; exact .inl ⟨hb, h⟩
    · rw [if_neg hb] at h; exact .inr ⟨h, .inl hb⟩
  have hmine : ∀ {k}, E'.blks.get x = some k → k.live = true ∧ k.ro = false ∧ ∀ vals n esz fam pos frz ro, k = .cells vals n esz fam pos frz ro → fam = x := by
    intro k h
    rw [h] at hw
    exact waits_eq hw
  have hkeep : ∀ c, c < w.heap.size → w'.heap[c]? = w.heap[c]? := fun c hc => S.keep c hc fun b k l h => by cases h
  have hfar : ∀ {k l}, E'.blks.get x = some k → ρ' x = some l → ¬ l.blk < w.heap.size := by
    intro k l h e hlt
    obtain ⟨h1, h2, _⟩ := hmine h
    obtain ⟨b0, k0, l0, a1, _⟩ := S.own x k l h h1 h2 e hlt
    cases a1
  have hold : ∀ {b k}, G.blks.get b = some k → k.live = true → ∃ l, ρ b = some l ∧ ρ' b = some l ∧ BlkAt ρ w l k := by
    intro b k h lv
    obtain ⟨l, e, hat⟩ := RG.dom b k h lv
    exact ⟨l, e, S.le b l e, hat⟩
  have hfx : G.fams.get x = none := by
    cases h : G.fams.get x with
    | none => rfl
    | some l => obtain ⟨k, hk⟩ := RG.famn x l h; rw [hx] at hk; cases hk
  refine ⟨⟨?_, RE.inb, ?_, ?_, ?_, ?_, ?_, RE.base, ?_⟩, ⟨S.le, ?_, hn' ▸ Nat.le_refl _, S.os, S.tape, S.output, S.size, fun c hc _ => hkeep c hc, ?_, ?_, ?_⟩⟩
  · intro b k h lv
    rcases hnew h with ⟨rfl, h⟩ | ⟨h, _⟩
    · exact RE.dom b k h lv
    · obtain ⟨l, e, e', hat⟩ := hold h lv
      exact ⟨l, e', hat.move S.le (hkeep l.blk (RG.inb b l e))⟩
  · intro b k l h lv e
    rcases hnew h with ⟨rfl, h⟩ | ⟨h, _⟩
    · exact RE.own b k l h lv e
    · obtain ⟨l', e1, e2, _⟩ := hold h lv
      rw [e] at e2
      cases e2
      exact RG.own b k l h lv e1
  · intro b1 b2 k1 k2 l1 l2 hne h1 h2 lv1 lv2 r1 r2 e1 e2 he
    rcases hnew h1 with ⟨u1, h1⟩ | ⟨h1, _⟩
    · rcases hnew h2 with ⟨u2, h2⟩ | ⟨h2, _⟩
      · exact absurd (u1.trans u2.symm) hne
      · obtain ⟨l', f1, f2, _⟩ := hold h2 lv2
        rw [e2] at f2
        cases f2
        rw [u1] at e1
        exact absurd (he ▸ RG.inb b2 l2 f1) (hfar h1 e1)
    · obtain ⟨l', f1, f2, _⟩ := hold h1 lv1
      rw [e1] at f2
      cases f2
      rcases hnew h2 with ⟨u2, h2⟩ | ⟨h2, _⟩
      · rw [u2] at e2
        exact absurd (he ▸ RG.inb b1 l1 f1) (hfar h2 e2)
      · obtain ⟨l'', f3, f4, _⟩ := hold h2 lv2
        rw [e2] at f4
        cases f4
        exact RG.apart b1 b2 k1 k2 l1 l2 hne h1 h2 lv1 lv2 r1 r2 f1 f3 he
  · intro b vals n esz fam pos frz h
    have hmem : G'.members fam = G.members fam := by simp only [Heap.members, hf']
    rw [hmem]
    rcases hnew h with ⟨u, h⟩ | ⟨h, _⟩
    · have hfam := (hmine h).2.2 _ _ _ _ _ _ _ rfl
      subst hfam
      simp [Heap.members, hfx, u]
    · exact RG.mem b vals n esz fam pos frz h
  · intro f l h
    rw [hf'] at h
    obtain ⟨k, hk⟩ := RG.famn f l h
    exact ⟨k, S.le f k hk⟩
  · intro b vals n esz fam pos frz ro h
    rcases hnew h with ⟨u, h⟩ | ⟨h, _⟩
    · have hfam := (hmine h).2.2 _ _ _ _ _ _ _ rfl
      subst hfam
      obtain ⟨l, e, _⟩ := RE.dom fam _ h rfl
      exact ⟨l, e⟩
    · obtain ⟨k, hk⟩ := RG.famd b vals n esz fam pos frz ro h
      exact ⟨k, S.le fam k hk⟩
  · intro b vals n esz pos frz ro l h e
    rcases hnew h with ⟨u, h⟩ | ⟨h, _⟩
    · subst u; exact RE.root b vals n esz pos frz ro l h e
    · obtain ⟨l', e1, e2, _⟩ := hold h rfl
      rw [e] at e2
      cases e2
      exact RG.root b vals n esz pos frz ro l h e1
  · intro b l h h0
    obtain ⟨e, h1⟩ := S.new b l h h0
    have h2 : b < G'.next := by rw [hn']; exact Nat.lt_of_lt_of_le h1 (Nat.le_trans hN hNG)
    rcases e with e | e
    · exact ⟨.inl e, h2⟩
    · replace e : N ≤ b := e
      omega
  · intro b k l h lv r e hlt
    rcases hnew h with ⟨u, h⟩ | ⟨h, _⟩
    · rw [u] at e
      exact absurd hlt (hfar h e)
    · obtain ⟨l', e1, e2, _⟩ := hold h lv
      rw [e] at e2
      cases e2
      exact ⟨b, k, l, h, lv, r, e1, rfl⟩
  · intro f _ hfx hno
    refine ⟨by rw [hf'], ?_⟩
    intro b vals n esz pos frz h
    rcases hnew h with ⟨u, h⟩ | ⟨h, _⟩
    · exact hfx ((hmine h).2.2 _ _ _ _ _ _ _ rfl)
    · exact hno b vals n esz pos frz h
  · intro b k h
    rcases hnew h with ⟨u, h⟩ | ⟨h, _⟩
    · exact .inr ⟨.inl u, by rw [u, hn']; exact Nat.lt_of_lt_of_le hxl hNG⟩
    · exact .inl ⟨k, h⟩
theorem Std.step {ρ1 ρ2 : Env} {H H1 H2 : Heap} {w1 w2 : World} (h : Std ρ H w ρ1 H1 w1) (k : Stp x ρ1 H1 w1 ρ2 H2 w2) (hx : H.next ≤ x) : Std ρ H w ρ2 H2 w2 where
  le := Env.le_trans h.le k.le
  new := fun b l h1 h2 => by
    cases e : ρ1 b with
    | some l1 =>
      obtain ⟨h3, h4⟩ := h.new b l1 e h2
      exact ⟨h3, Nat.lt_of_lt_of_le h4 k.mono⟩
    | none =>
      obtain ⟨h3, h4⟩ := k.new b l h1 e
      refine ⟨?_, h4⟩
      rcases h3 with h3 | h3
      · exact .inr (h3 ▸ hx)
      · exact .inr (Nat.le_trans h.mono h3)
  mono := Nat.le_trans h.mono k.mono
  os := k.os.trans h.os
  tape := k.tape.trans h.tape
  output := k.output.trans h.output
  size := Nat.le_trans h.size k.size
  keep := fun c hc hk => by
    rw [k.keep c (Nat.lt_of_lt_of_le hc h.size) ?_, h.keep c hc hk]
    intro b kk l g1 g2 g3 g4 g5
    obtain ⟨b0, k0, l0, a1, a2, a3, a4, a5⟩ := h.own b kk l g1 g2 g3 g4 (g5 ▸ hc)
    exact hk b0 k0 l0 a1 a2 a3 a4 (a5.trans g5)
  own := fun b kk l g1 g2 g3 g4 g5 => by
    obtain ⟨b1, k1, l1, a1, a2, a3, a4, a5⟩ := k.own b kk l g1 g2 g3 g4 (Nat.lt_of_lt_of_le g5 h.size)
    obtain ⟨b0, k0, l0, c1, c2, c3, c4, c5⟩ := h.own b1 k1 l1 a1 a2 a3 a4 (a5 ▸ g5)
    exact ⟨b0, k0, l0, c1, c2, c3, c4, c5.trans a5⟩
  famk := fun f h1 h2 h3 => by
    obtain ⟨e1, n1⟩ := h.famk f h1 h2 h3
    obtain ⟨e2, n2⟩ := k.famk f (Nat.lt_of_lt_of_le h1 h.mono) (by omega) n1
    exact ⟨e2.trans e1, n2⟩
  blk := fun b kk g => by
    rcases k.blk b kk g with ⟨k1, g1⟩ | ⟨g1 | g1, g2⟩
    · rcases h.blk b k1 g1 with g3 | ⟨g3, g4⟩
      · exact .inl g3
      · exact .inr ⟨g3, Nat.lt_of_lt_of_le g4 k.mono⟩
    · exact .inr ⟨.inr (g1 ▸ hx), g2⟩
    · exact .inr ⟨.inr (Nat.le_trans h.mono g1), g2⟩
end Go.Ax

namespace Go.Ax
section
variable {C : Ctx} {l l' : LV} {tm : T Value}
theorem look_congr (hng : l.ng = l'.ng) {x : Operand} (h : ∀ t, x = .tmp t → lookTmp t l tm = lookTmp t l' tm) : look x l tm = look x l' tm := by
  cases x with
  | tmp t => exact h t rfl
  | const v => rfl
  | global g =>
    show og (Nat.ble (Nat.succ g) l.ng) _ = og (Nat.ble (Nat.succ g) l'.ng) _
    rw [hng]
  | func f => rfl
theorem looks_congr : ∀ {xs : List Operand}, (∀ x ∈ xs, look x l tm = look x l' tm) → looks l tm xs = looks l' tm xs
  | [], _ => rfl
  | x :: xs, h => by
    show (ob (look x l tm) fun v => ob (looks l tm xs) fun vs => some (v :: vs)) = (ob (look x l' tm) fun v => ob (looks l' tm xs) fun vs => some (v :: vs))
    rw [h x (by simp), looks_congr fun y hy => h y (by simp [hy])]
theorem lookParts_congr : ∀ {xs : List (Nat × Operand)}, (∀ x ∈ xs.map (·.2), look x l tm = look x l' tm) → lookParts l tm xs = lookParts l' tm xs
  | [], _ => rfl
  | (i, x) :: xs, h => by
    show (ob (look x l tm) fun v => ob (lookParts l tm xs) fun vs => some ((i, v) :: vs)) = (ob (look x l' tm) fun v => ob (lookParts l' tm xs) fun vs => some ((i, v) :: vs))
    rw [h x (by simp), lookParts_congr fun y hy => h y (by simp [hy])]
theorem lookO_congr {x : Option Operand} (h : ∀ y ∈ x, look y l tm = look y l' tm) : lookO x l tm = lookO x l' tm := by
  cases x with
  | none => rfl
  | some x =>
    show (ob (look x l tm) fun v => some (some v)) = (ob (look x l' tm) fun v => some (some v))
    rw [h x rfl]
theorem opSel_congr {o : Op} (h : ∀ x ∈ o.operands.toList, look x l tm = look x l' tm) (id : Nat) (H : Heap) : opSel o C l tm id H = opSel o C l' tm id H := by
  cases o <;> simp only [Op.operands] at h
  case move x => exact congrArg (wrap1 H) (h x (by simp))
  case assign x => exact congrArg (wrap1 H) (h x (by simp))
  case pick c x y =>
    show wrap1 H (ob (look c l tm) fun c => ob (asBool c) (pick1 l tm x y)) = wrap1 H (ob (look c l' tm) fun c => ob (asBool c) (pick1 l' tm x y))
    have : pick1 l tm x y = pick1 l' tm x y := by
      funext b
      show Bool.rec (motive := fun _ => Option Value) (look y l tm) (look x l tm) b = Bool.rec (motive := fun _ => Option Value) (look y l' tm) (look x l' tm) b
      rw [h x (by simp), h y (by simp)]
    rw [h c (by simp), this]
  case alloc t => rfl
  case box t x =>
    show ob (look x l tm) (boxE C H id t) = ob (look x l' tm) (boxE C H id t)
    rw [h x (by simp)]
  case build t ps =>
    show wrap1 H (ob (lookParts l tm ps.toList) (buildE C t)) = wrap1 H (ob (lookParts l' tm ps.toList) (buildE C t))
    rw [lookParts_congr fun x hx => h x (by simpa using hx)]
  case buildSlice t n ps =>
    show ob (lookParts l tm ps.toList) (buildSliceE C H id t n) = ob (lookParts l' tm ps.toList) (buildSliceE C H id t n)
    rw [lookParts_congr fun x hx => h x (by simpa using hx)]
  case insert t m k v =>
    show wrap0 (ob (look m l tm) fun m => ob (look k l tm) fun k => ob (look v l tm) fun v => mapSetE C H t m k v) = wrap0 (ob (look m l' tm) fun m => ob (look k l' tm) fun k => ob (look v l' tm) fun v => mapSetE C H t m k v)
    rw [h m (by simp), h k (by simp), h v (by simp)]
  case load t x =>
    show wrap1 H (ob (look x l tm) (ldE C H t)) = wrap1 H (ob (look x l' tm) (ldE C H t))
    rw [h x (by simp)]
  case store t x y =>
    show wrap0 (ob (look x l tm) fun a => ob (look y l tm) (stE C H t a)) = wrap0 (ob (look x l' tm) fun a => ob (look y l' tm) (stE C H t a))
    rw [h x (by simp), h y (by simp)]
  case nilCheck x =>
    show wrap1 H (ob (look x l tm) nc1) = wrap1 H (ob (look x l' tm) nc1)
    rw [h x (by simp)]
  case binOp op t x y u =>
    show wrap1 H (ob (look x l tm) fun x => ob (look y l tm) (binE C op t x)) = wrap1 H (ob (look x l' tm) fun x => ob (look y l' tm) (binE C op t x))
    rw [h x (by simp), h y (by simp)]
  case unOp op t x =>
    show wrap1 H (ob (look x l tm) (unE C.P op)) = wrap1 H (ob (look x l' tm) (unE C.P op))
    rw [h x (by simp)]
  case convert s d x =>
    show ob (look x l tm) (convE C H id s d) = ob (look x l' tm) (convE C H id s d)
    rw [h x (by simp)]
  case makeInterface t x =>
    show wrap1 H (ob (look x l tm) fun v => ob (C.und t) fun d => og (notIface d) (some (.iface t v))) = wrap1 H (ob (look x l' tm) fun v => ob (C.und t) fun d => og (notIface d) (some (.iface t v)))
    rw [h x (by simp)]
  case makeFunc fn x y =>
    have h1 : looks l tm x.toList = looks l' tm x.toList := looks_congr fun z hz => h z (by simp at hz ⊢; exact .inl hz)
    have h2 : looks l tm y.toList = looks l' tm y.toList := looks_congr fun z hz => h z (by simp at hz ⊢; exact .inr hz)
    show opMakeFunc fn x y C l tm id H = opMakeFunc fn x y C l' tm id H
    unfold opMakeFunc
    rw [h1, h2]
  case makeMap t x => rfl
  case makeSlice t n c =>
    show (ob (look n l tm) fun n => ob (look c l tm) (makeSliceE C H id t n)) = (ob (look n l' tm) fun n => ob (look c l' tm) (makeSliceE C H id t n))
    rw [h n (by simp), h c (by simp)]
  case slice t x lo hi mx =>
    have h1 : lookO lo l tm = lookO lo l' tm := lookO_congr fun z hz => h z (by cases hz; simp)
    have h2 : lookO hi l tm = lookO hi l' tm := lookO_congr fun z hz => h z (by cases hz; simp)
    have h3 : lookO mx l tm = lookO mx l' tm := lookO_congr fun z hz => h z (by cases hz; simp)
    show opSlice t x lo hi mx C l tm id H = opSlice t x lo hi mx C l' tm id H
    unfold opSlice
    rw [h x (by simp), h1, h2, h3]
  case fieldAddr t x f =>
    show wrap1 H (ob (look x l tm) fun x => fieldAddrE C t x f) = wrap1 H (ob (look x l' tm) fun x => fieldAddrE C t x f)
    rw [h x (by simp)]
  case field t x f =>
    show wrap1 H (ob (look x l tm) fun x => fieldE C t x f) = wrap1 H (ob (look x l' tm) fun x => fieldE C t x f)
    rw [h x (by simp)]
  case indexAddr t x i =>
    show wrap1 H (ob (look x l tm) fun x => ob (look i l tm) (indexAddrE C t x)) = wrap1 H (ob (look x l' tm) fun x => ob (look i l' tm) (indexAddrE C t x))
    rw [h x (by simp), h i (by simp)]
  case index t x i =>
    show wrap1 H (ob (look x l tm) fun x => ob (look i l tm) (indexE C t x)) = wrap1 H (ob (look x l' tm) fun x => ob (look i l' tm) (indexE C t x))
    rw [h x (by simp), h i (by simp)]
  case lookup t x k ok =>
    show wrap1 H (ob (look x l tm) fun x => ob (look k l tm) fun k => lookupE C H t x k ok) = wrap1 H (ob (look x l' tm) fun x => ob (look k l' tm) fun k => lookupE C H t x k ok)
    rw [h x (by simp), h k (by simp)]
  case mapUpdate t m k v =>
    show wrap0 (ob (look m l tm) fun m => ob (look k l tm) fun k => ob (look v l tm) fun v => mapSetE C H t m k v) = wrap0 (ob (look m l' tm) fun m => ob (look k l' tm) fun k => ob (look v l' tm) fun v => mapSetE C H t m k v)
    rw [h m (by simp), h k (by simp), h v (by simp)]
  case typeAssert x t s ok =>
    show wrap1 H (ob (look x l tm) fun v => ob (C.und s) fun d => og (notIface d) (ta1 C s ok v)) = wrap1 H (ob (look x l' tm) fun v => ob (C.und s) fun d => og (notIface d) (ta1 C s ok v))
    rw [h x (by simp)]
  case extract x i =>
    show wrap1 H (ob (look x l tm) fun t => ob (asTup t) fun vs => vs[i]?) = wrap1 H (ob (look x l' tm) fun t => ob (asTup t) fun vs => vs[i]?)
    rw [h x (by simp)]
  case call c =>
    obtain ⟨f, args, ts⟩ := c
    cases f with
    | value f =>
      have h1 : looks l tm args.toList = looks l' tm args.toList := looks_congr fun z hz => h z (by simp [Call.operands] at hz ⊢; exact .inr hz)
      have h2 : look f l tm = look f l' tm := h f (by simp [Call.operands])
      show callV f args.toList C l tm id H = callV f args.toList C l' tm id H
      unfold callV
      rw [h1, h2]
    | invoke r m => rfl
    | builtin b =>
      have h1 : looks l tm args.toList = looks l' tm args.toList := looks_congr fun z hz => h z (by simp [Call.operands] at hz ⊢; exact hz)
      show callB b args.toList ts.toList C l tm id H = callB b args.toList ts.toList C l' tm id H
      unfold callB
      rw [h1]
  all_goals rfl
noncomputable def len1 (C : Ctx) (H : Heap) : List Value → List TypeId → Option ORes
  | [x], [t] => ob (lenOpE C H t x) fun v => some (.val v H)
  | _, _ => none
theorem builtin_len (id : Nat) (H : Heap) (vs : List Value) (ts : List TypeId) : builtinE C H id .len vs ts = len1 C H vs ts := by
  unfold builtinE
  match vs, ts with
  | [], _ => rfl
  | [x], [] => rfl
  | [x], [t] => rfl
  | [x], t :: u :: ts => rfl
  | x :: y :: zs, _ => rfl
theorem isRd_spec {o : Op} (h : isRd C o = true) {H : Heap} {v : Value} (hr : rdE C tm o l H = some v) (id : Nat) : opSel o C l tm id H = some (.val v H) := by
  obtain ⟨r, h1, h2⟩ := ob_eq_some hr
  cases o <;> try (cases h; done)
  case load t x =>
    replace h1 : wrap1 H (ob (look x l tm) (ldE C H t)) = some r := h1
    obtain ⟨u, _, rfl⟩ := wrap1_eq h1
    cases h2
    exact h1
  case lookup t x k ok =>
    replace h1 : wrap1 H (ob (look x l tm) fun x => ob (look k l tm) fun k => lookupE C H t x k ok) = some r := h1
    obtain ⟨u, _, rfl⟩ := wrap1_eq h1
    cases h2
    exact h1
  case convert s d x =>
    replace h1 : ob (look x l tm) (convE C H 0 s d) = some r := h1
    obtain ⟨y, h3, h4⟩ := ob_eq_some h1
    show ob (look x l tm) (convE C H id s d) = some (.val v H)
    rw [h3]
    show convE C H id s d y = _
    unfold isRd at h
    simp only [] at h
    split at h
    · rename_i hd
      unfold convE at h4 ⊢
      cases hs : C.und s with
      | none => rw [hs] at h4; cases h4
      | some sd =>
        rw [hs] at h4
        simp only [hd] at h4 ⊢
        cases y with
        | string z => cases h4; cases h2; rfl
        | slice a len cap =>
          simp only [] at h4 ⊢
          cases sd with
          | slice e =>
            simp only [] at h4 ⊢
            split at h4
            · rename_i he
              cases a with
              | none => cases h4; cases h2; rfl
              | some a =>
                obtain ⟨b, off, sp⟩ := a
                simp only [] at h4 ⊢
                obtain ⟨u1, g1, h4⟩ := ob_eq_some h4
                obtain ⟨u2, g2, h4⟩ := ob_eq_some h4
                cases h4
                cases h2
                rw [g1, ob_some, g2, ob_some]
            · cases h4
          | _ => cases h4
        | _ => cases h4
    · cases h
  case call c =>
    obtain ⟨f, args, ts⟩ := c
    cases f with
    | value f => cases h
    | invoke r m => cases h
    | builtin b =>
      cases b <;> try (cases h; done)
      replace h1 : (ob (looks l tm args.toList) fun args => builtinE C H 0 .len args ts.toList) = some r := h1
      obtain ⟨vs, h3, h4⟩ := ob_eq_some h1
      show (ob (looks l tm args.toList) fun args => builtinE C H id .len args ts.toList) = _
      rw [h3]
      show builtinE C H id .len vs ts.toList = _
      rw [builtin_len] at h4 ⊢
      unfold len1 at h4 ⊢
      split at h4
      · obtain ⟨u, h5, h6⟩ := ob_eq_some h4
        cases h6
        cases h2
        exact h4
      · cases h4
theorem wantG_congr {ops : List Oper} {o : Oper} {g : Nat × Bool} (hg : o.guard = some g) (h : ∀ t ∈ guardTmp ops o, lookTmp t l tm = lookTmp t l' tm) : wantG ops l tm g = wantG ops l' tm g := by
  unfold wantG
  cases hp : ops[g.1]? with
  | none => rfl
  | some p =>
    simp only [ob_some]
    cases hd : p.dst with
    | none => rfl
    | some d =>
      simp only [ob_some]
      rw [h d (by obtain ⟨g1, g2⟩ := g; simp only [guardTmp, hg]; simp only at hp; rw [hp]; simp [hd])]
end
mutual
theorem vEq_eq : ∀ {a b : Value}, vEq a b = true → a = b
  | .bool x, b, h => by
    cases b <;> simp [vEq] at h
    cases x <;> simp_all
  | .int k x, b, h => by
    cases b <;> (try (simp [vEq] at h; done))
    rename_i k' y
    simp only [vEq] at h
    split at h
    · rename_i hk
      have := kno_inj (Nat.eq_of_beq_eq_true hk)
      subst this
      split at h
      · rw [Nat.eq_of_beq_eq_true h]
      · rw [Nat.eq_of_beq_eq_true h]
      · cases h
    · cases h
  | .string ⟨⟨x⟩⟩, b, h => by
    cases b <;> (try (simp [vEq] at h; done))
    rename_i y
    obtain ⟨⟨y⟩⟩ := y
    simp only [vEq] at h
    rw [bytesEq_iff] at h
    rw [eq_of_beq h]
  | .pointer none, b, h => by
    cases b <;> (try (simp [vEq] at h; done))
    rename_i y
    cases y with
    | none => rfl
    | some y => simp [vEq] at h
  | .pointer (some ⟨c, o, sp⟩), b, h => by
    cases b <;> (try (cases sp <;> simp [vEq] at h; done))
    rename_i y
    cases y with
    | none => cases sp <;> simp [vEq] at h
    | some y =>
      obtain ⟨c', o', sp'⟩ := y
      cases sp <;> cases sp' <;> simp [vEq] at h
      rw [h.1, h.2]
  | .slice a l c, b, h => by
    cases b <;> (try (rcases a with _ | ⟨_, _, _ | _⟩ <;> simp [vEq] at h; done))
    rename_i a' l' c'
    rcases a with _ | ⟨x, y, _ | z⟩ <;> rcases a' with _ | ⟨x', y', _ | z'⟩ <;> simp [vEq] at h
    · rw [h.1, h.2]
    · obtain ⟨⟨⟨h1, h2⟩, h3⟩, h4⟩ := h
      rw [h1, h2, h3, h4]
    · obtain ⟨⟨⟨⟨h1, h2⟩, h3⟩, h4⟩, h5⟩ := h
      rw [h1, h2, h3, h4, h5]
  | .map r, b, h => by
    cases b <;> (try (cases r <;> simp [vEq] at h; done))
    rename_i r'
    cases r <;> cases r' <;> simp [vEq] at h
    · rfl
    · rw [h]
  | .nilFunc, b, h => by cases b <;> simp [vEq] at h; rfl
  | .nilIface, b, h => by cases b <;> simp [vEq] at h; rfl
  | .func fn ⟨x⟩ ⟨y⟩, b, h => by
    cases b <;> (try (cases fn <;> simp [vEq] at h; done))
    rename_i fn' x' y'
    obtain ⟨x'⟩ := x'
    obtain ⟨y'⟩ := y'
    cases fn <;> cases fn' <;> simp [vEq] at h
    obtain ⟨⟨h1, h2⟩, h3⟩ := h
    rw [h1, vEqL_eq h2, vEqL_eq h3]
  | .iface t v, b, h => by
    cases b <;> simp [vEq] at h
    rw [h.1, vEq_eq h.2]
  | .agg ⟨x⟩, b, h => by
    cases b <;> (try (simp [vEq] at h; done))
    rename_i y
    obtain ⟨y⟩ := y
    simp only [vEq] at h
    rw [vEqL_eq h]
  | .tuple ⟨x⟩, b, h => by
    cases b <;> (try (simp [vEq] at h; done))
    rename_i y
    obtain ⟨y⟩ := y
    simp only [vEq] at h
    rw [vEqL_eq h]
  | .float _ _, b, h => by cases b <;> simp [vEq] at h
  | .complex _ _ _, b, h => by cases b <;> simp [vEq] at h
  | .chan _, b, h => by cases b <;> simp [vEq] at h
theorem vEqL_eq : ∀ {a b : List Value}, vEqL a b = true → a = b
  | [], [], _ => rfl
  | [], _ :: _, h => by simp [vEqL] at h
  | _ :: _, [], h => by simp [vEqL] at h
  | x :: xs, y :: ys, h => by
    simp only [vEqL] at h
    split at h
    · rename_i hx
      rw [vEq_eq hx, vEqL_eq h]
    · cases h
end
theorem isV_eq {v : Value} {o : Option Value} (h : isV v o = true) : o = some v := by
  cases o with
  | none => cases h
  | some u => rw [vEq_eq h]
end Go.Ax

set_option linter.unusedVariables false
namespace Go.Ax
structure St where
  l : LV
  K : Heap
  A : Nat
  al : List (Nat × Blk)
  hs : List Hist
  rs : List Rdd
inductive Kd where
  | skip
  | float
  | read
  | spine
  deriving DecidableEq
def putL (dst : Option Tmp) (v : Value) (l : LV) : LV := match dst with
  | some d => .cons d v l
  | none => l
def Wants (ops : List Oper) (l : LV) (tm : T Value) (o : Oper) : Prop := ∀ g, o.guard = some g → wantG ops l tm g = some true
def Runs (C : Ctx) (call : FuncId → List Value → Heap → CRes) (tm : T Value) (id : Nat) (o : Oper) (l : LV) (R : Heap) (v : Value) (K' : Heap) : Prop :=
  opSel o.op C l tm id R = some (.val v K') ∨ (opSel o.op C l tm id R = some (.unit K') ∧ v = undef) ∨ ∃ f args, opSel o.op C l tm id R = some (.enter f args) ∧ call f args R = .ok v K'
section
variable (C : Ctx) (call : FuncId → List Value → Heap → CRes) (nt : Nat) (ops : List Oper) (fl : List Nat) (tm : T Value) (base n : Nat)
inductive Dr (o : Oper) (i m : Nat) (s : St) : Kd → Value → Option Blk → St → Prop where
  | skip (g : Nat × Bool) : o.guard = some g → wantG ops s.l tm g = some false → Dr o i m s .skip undef none ⟨putL o.dst undef s.l, s.K, s.A, s.al, s.hs, s.rs⟩
  | float (v : Value) (E : Heap) : Wants ops s.l tm o → opSel o.op C s.l tm (base + i) (noMem base n) = some (.val v E) → waits (base + i) (E.blks.get (base + i)) = true → E.next ≤ base + n →
      Dr o i m s .float v (E.blks.get (base + i)) ⟨putL o.dst v s.l, s.K, s.A, addAl i (E.blks.get (base + i)) s.al, s.hs, s.rs⟩
  | read (v : Value) : Wants ops s.l tm o → isRd C o.op = true → rdE C tm o.op s.l (layD base s.K s.A m s.al) = some v → backOk C tm base s.al o.op s.l m v s.hs = true →
      Dr o i m s .read v none ⟨putL o.dst v s.l, s.K, s.A, s.al, s.hs, ⟨i, o.op, s.l, m, v⟩ :: s.rs⟩
  | spine (v : Value) (K' : Heap) (rs' : List Rdd) : Wants ops s.l tm o → chainOk m s.hs = true → Runs C call tm (base + i) o s.l (layD base s.K s.A m s.al) v K' → openRds C tm base s.al m K' (Nat.lor s.A m) s.rs = some rs' →
      Dr o i m s .spine v none ⟨putL o.dst v s.l, K', Nat.lor s.A m, s.al, ⟨i, s.K, s.A⟩ :: s.hs, rs'⟩
def DstOk (o : Oper) : Prop := ∀ d, o.dst = some d → d < nt
variable {C call nt ops fl tm base n}
theorem putE_step {dst : Option Tmp} {v : Value} {l : LV} {k : LV → Res} {e : Ex} {tm' : T Value} {H' : Heap} (h : putE nt dst v l k = .mk e tm' H') : (∀ d, dst = some d → d < nt) ∧ k (putL dst v l) = .mk e tm' H' := by
  cases dst with
  | none => exact ⟨(fun d hd => by cases hd), h⟩
  | some d =>
    replace h : Bool.rec (motive := fun _ => Res) .none (k (.cons d v l)) (Nat.ble (Nat.succ d) nt) = .mk e tm' H' := h
    cases hb : Nat.ble (Nat.succ d) nt with
    | false => rw [hb] at h; cases h
    | true =>
      rw [hb] at h
      refine ⟨?_, h⟩
      intro d' hd'
      cases hd'
      exact Nat.le_of_ble_eq_true hb
theorem stepD_step {o : Oper} {i m : Nat} {ih : DK} {s : St} {v : Value} {K' : Heap} {e : Ex} {tm' : T Value} {H' : Heap} (h : stepD C nt tm base o.dst i m ih s.l s.K s.A s.al s.hs s.rs v K' = .mk e tm' H') :
    DstOk nt o ∧ ∃ rs', openRds C tm base s.al m K' (Nat.lor s.A m) s.rs = some rs' ∧ ih (putL o.dst v s.l) K' (Nat.lor s.A m) s.al (⟨i, s.K, s.A⟩ :: s.hs) rs' = .mk e tm' H' := by
  unfold stepD at h
  rw [natF_eq] at h
  obtain ⟨rs', h1, h2⟩ := or0_eq h
  obtain ⟨h3, h4⟩ := putE_step h2
  exact ⟨h3, rs', h1, h4⟩
theorem heapD_step {o : Oper} {i m : Nat} {ih : DK} {s : St} {e : Ex} {tm' : T Value} {H' : Heap} (hw : Wants ops s.l tm o) (h : heapD C call nt tm base o i m ih s.l s.K s.A s.al s.hs s.rs = .mk e tm' H') :
    DstOk nt o ∧ ∃ kd v b s', Dr C call ops tm base n o i m s kd v b s' ∧ ih s'.l s'.K s'.A s'.al s'.hs s'.rs = .mk e tm' H' := by
  unfold heapD at h
  cases hr : isRd C o.op with
  | true =>
    rw [hr] at h
    replace h : readD C nt tm base o i m ih s.l s.K s.A s.al s.hs s.rs = .mk e tm' H' := h
    obtain ⟨v, h1, h2⟩ := or0_eq h
    cases hb : backOk C tm base s.al o.op s.l m v s.hs with
    | false => rw [hb] at h2; cases h2
    | true =>
      rw [hb] at h2
      obtain ⟨h3, h4⟩ := putE_step h2
      exact ⟨h3, _, _, _, _, .read v hw hr h1 hb, h4⟩
  | false =>
    rw [hr] at h
    replace h : Bool.rec (motive := fun _ => Res) .none (spineD C call nt tm base o i m ih s.l s.K s.A s.al s.hs s.rs) (chainOk m s.hs) = .mk e tm' H' := h
    cases hc : chainOk m s.hs with
    | false => rw [hc] at h; cases h
    | true =>
      rw [hc] at h
      obtain ⟨r, h1, h2⟩ := or0_eq h
      cases r with
      | val v H =>
        obtain ⟨h3, rs', h4, h5⟩ := stepD_step h2
        exact ⟨h3, _, _, _, _, .spine v H rs' hw hc (.inl h1) h4, h5⟩
      | unit H =>
        obtain ⟨h3, rs', h4, h5⟩ := stepD_step h2
        exact ⟨h3, _, _, _, _, .spine undef H rs' hw hc (.inr (.inl ⟨h1, rfl⟩)) h4, h5⟩
      | enter f args =>
        replace h2 : CRes.rec (motive := fun _ => Res) Res.none (fun v H => stepD C nt tm base o.dst i m ih s.l s.K s.A s.al s.hs s.rs v H) (call f args (layD base s.K s.A m s.al)) = .mk e tm' H' := h2
        cases hcall : call f args (layD base s.K s.A m s.al) with
        | none => rw [hcall] at h2; cases h2
        | ok v H =>
          rw [hcall] at h2
          obtain ⟨h3, rs', h4, h5⟩ := stepD_step h2
          exact ⟨h3, _, _, _, _, .spine v H rs' hw hc (.inr (.inr ⟨f, args, h1, hcall⟩)) h4, h5⟩
theorem drawOp_step {o : Oper} {i m : Nat} {ih : DK} {s : St} {e : Ex} {tm' : T Value} {H' : Heap} (hw : Wants ops s.l tm o) (h : drawOp C call nt tm base n o i m ih s.l s.K s.A s.al s.hs s.rs = .mk e tm' H') :
    DstOk nt o ∧ ∃ kd v b s', Dr C call ops tm base n o i m s kd v b s' ∧ ih s'.l s'.K s'.A s'.al s'.hs s'.rs = .mk e tm' H' := by
  unfold drawOp at h
  cases hr : opSel o.op C s.l tm (Nat.add base i) (noMem base n) with
  | none => rw [hr] at h; exact heapD_step hw h
  | some r =>
    rw [hr] at h
    cases r with
    | unit E => exact heapD_step hw h
    | enter f args => exact heapD_step hw h
    | val v E =>
      replace h : Bool.rec (motive := fun _ => Res) .none (putE nt o.dst v s.l fun l => ih l s.K s.A (addAl i (E.blks.get (Nat.add base i)) s.al) s.hs s.rs)
        (Bool.rec (motive := fun _ => Bool) false (waits (Nat.add base i) (E.blks.get (Nat.add base i))) (Nat.ble E.next (Nat.add base n))) = .mk e tm' H' := h
      cases hb : Nat.ble E.next (Nat.add base n) with
      | false => rw [hb] at h; cases h
      | true =>
        rw [hb] at h
        cases hv : waits (Nat.add base i) (E.blks.get (Nat.add base i)) with
        | false => rw [hv] at h; cases h
        | true =>
          rw [hv] at h
          obtain ⟨h3, h4⟩ := putE_step h
          exact ⟨h3, _, _, _, _, .float v E hw hr hv (Nat.le_of_ble_eq_true hb), h4⟩
theorem one_step {o : Oper} {i m : Nat} {ih : DK} {s : St} {e : Ex} {tm' : T Value} {H' : Heap}
    (h : (Option.rec (motive := fun _ => DK) (drawOp C call nt tm base n o i m ih) (drawG C call nt ops tm base n o i m ih) o.guard : DK) s.l s.K s.A s.al s.hs s.rs = .mk e tm' H') :
    DstOk nt o ∧ ∃ kd v b s', Dr C call ops tm base n o i m s kd v b s' ∧ ih s'.l s'.K s'.A s'.al s'.hs s'.rs = .mk e tm' H' := by
  cases hg : o.guard with
  | none =>
    rw [hg] at h
    exact drawOp_step (fun g e => by rw [hg] at e; cases e) h
  | some g =>
    rw [hg] at h
    obtain ⟨b, h1, h2⟩ := or0_eq h
    cases b with
    | true => exact drawOp_step (fun g' e => by rw [hg] at e; cases e; exact h1) h2
    | false =>
      obtain ⟨h3, h4⟩ := putE_step h2
      exact ⟨h3, _, _, _, _, .skip g hg h1, h4⟩
theorem trace {e : Ex} {tm' : T Value} {H' : Heap} : ∀ (rest : List Oper) (i : Nat) (ms : List Nat) (s : St), drawS C call nt ops fl tm base n rest i ms s.l s.K s.A s.al s.hs s.rs = .mk e tm' H' →
    ∃ (st : Nat → St) (kd : Nat → Kd) (va : Nat → Value) (bl : Nat → Option Blk), st i = s ∧
      (∀ j o, rest[j]? = some o → ∃ m, ms[j]? = some m ∧ DstOk nt o ∧ Dr C call ops tm base n o (i + j) m (st (i + j)) (kd (i + j)) (va (i + j)) (bl (i + j)) (st (i + j + 1))) ∧
      e = .normal ∧ tm' = flush fl (st (i + rest.length)).l tm ∧ H' = layD base (st (i + rest.length)).K (st (i + rest.length)).A (Nat.sub (Nat.shiftLeft 1 n) 1) (st (i + rest.length)).al
  | [], i, ms, s, h => by
    replace h : Res.mk .normal (flush fl s.l tm) (layD base s.K s.A (Nat.sub (Nat.shiftLeft 1 n) 1) s.al) = .mk e tm' H' := h
    cases h
    exact ⟨fun _ => s, fun _ => .skip, fun _ => undef, fun _ => none, rfl, (fun j o h => by simp at h), rfl, rfl, rfl⟩
  | o :: rest, i, ms, s, h => by
    cases ms with
    | nil => cases h
    | cons m ms =>
      replace h : natF (Nat.succ i) (fun i' => (Option.rec (motive := fun _ => DK) (drawOp C call nt tm base n o i m (drawS C call nt ops fl tm base n rest i' ms)) (drawG C call nt ops tm base n o i m (drawS C call nt ops fl tm base n rest i' ms)) o.guard : DK)) s.l s.K s.A s.al s.hs s.rs = .mk e tm' H' := h
      rw [natF_eq] at h
      obtain ⟨h1, k, v, b, s', h2, h3⟩ := one_step h
      obtain ⟨st, kd, va, bl, g1, g2, g3, g4, g5⟩ := trace rest (i + 1) ms s' h3
      have hne : ∀ j, i + 1 + j ≠ i := by intro j; omega
      refine ⟨fun x => if x = i then s else st x, fun x => if x = i then k else kd x, fun x => if x = i then v else va x, fun x => if x = i then b else bl x, by simp, ?_, g3, ?_, ?_⟩
      · intro j o' ho
        cases j with
        | zero =>
          simp at ho
          subst ho
          refine ⟨m, by simp, h1, ?_⟩
          simp [g1]
          exact h2
        | succ j =>
          simp at ho
          obtain ⟨m', a1, a2, a3⟩ := g2 j o' ho
          refine ⟨m', by simpa using a1, a2, ?_⟩
          have e1 : i + (j + 1) = i + 1 + j := by omega
          rw [e1]
          simp only [hne j, if_false]
          have e2 : i + 1 + j + 1 ≠ i := by omega
          simp only [e2, if_false]
          exact a3
      · have e1 : i + (o :: rest).length = i + 1 + rest.length := by simp; omega
        rw [e1]
        simp only [hne, if_false]
        exact g4
      · have e1 : i + (o :: rest).length = i + 1 + rest.length := by simp; omega
        rw [e1]
        simp only [hne, if_false]
        exact g5
end
end Go.Ax

set_option linter.unusedVariables false
namespace Go.Ax
structure Plan (C : Ctx) (call : FuncId → List Value → Heap → CRes) (nt : Nat) (ops : Array Oper) (tm : T Value) (base : Nat) (K0 : Heap) where
  st : Nat → St
  kd : Nat → Kd
  va : Nat → Value
  bl : Nat → Option Blk
  μ : Nat → Nat
  first : st 0 = ⟨.nil C.ng, K0, 0, [], [], []⟩
  step : ∀ i o, ops[i]? = some o → DstOk nt o ∧ Dr C call ops.toList tm base ops.size o i (μ i) (st i) (kd i) (va i) (bl i) (st (i + 1))
  anc : ∀ i o, ops[i]? = some o → ∀ b, bitOf (μ i) b = true → ∃ e ∈ o.after.toList, bindsAny e = true ∧ (b = e.on ∨ bitOf (μ e.on) b = true)
  edge : ∀ i o, ops[i]? = some o → ∀ e ∈ o.after.toList, bindsAny e = true → e.on < i ∧ bitOf (μ i) e.on = true ∧ ∀ b, bitOf (μ e.on) b = true → bitOf (μ i) b = true
  reads : ∀ i o, ops[i]? = some o → ∀ t ∈ looksAt ops.toList o, ∀ j p, j < i → ops[j]? = some p → p.dst = some t → bitOf (μ i) j = true
  writes : ∀ i o, ops[i]? = some o → ∀ t, o.dst = some t → ∀ j p, j < i → ops[j]? = some p → (p.dst = some t ∨ t ∈ looksAt ops.toList p) → bitOf (μ i) j = true
noncomputable def layP (base : Nat) (K : Heap) (A : Nat) (P : Nat → Bool) (al : List (Nat × Blk)) : Heap :=
  ⟨List.rec (motive := fun _ => T Blk) K.blks (fun p _ ih => Bool.rec (motive := fun _ => T Blk) ih (Bool.rec (motive := fun _ => T Blk) (ih.set (Nat.add base p.1) (some p.2)) ih (bitOf A p.1)) (P p.1)) al, K.fams, K.next⟩
theorem layD_eq (base : Nat) (K : Heap) (A m : Nat) (al : List (Nat × Blk)) : layD base K A m al = layP base K A (bitOf m) al := rfl
noncomputable def alOf (bl : Nat → Option Blk) : Nat → List (Nat × Blk)
  | 0 => []
  | k + 1 => addAl k (bl k) (alOf bl k)
theorem layP_cons (base : Nat) (K : Heap) (A : Nat) (P : Nat → Bool) (p : Nat × Blk) (al : List (Nat × Blk)) :
    layP base K A P (p :: al) = ⟨(match P p.1, bitOf A p.1 with | true, false => (layP base K A P al).blks.set (base + p.1) (some p.2) | _, _ => (layP base K A P al).blks), K.fams, K.next⟩ := by
  show Heap.mk (Bool.rec (motive := fun _ => T Blk) (layP base K A P al).blks (Bool.rec (motive := fun _ => T Blk) ((layP base K A P al).blks.set (Nat.add base p.1) (some p.2)) (layP base K A P al).blks (bitOf A p.1)) (P p.1)) _ _ = _
  cases P p.1 <;> cases bitOf A p.1 <;> rfl
theorem layP_congr {base : Nat} {K : Heap} {A : Nat} {P P' : Nat → Bool} {bl : Nat → Option Blk} : ∀ {n : Nat}, (∀ a, a < n → bl a ≠ none → P a = P' a) → layP base K A P (alOf bl n) = layP base K A P' (alOf bl n)
  | 0, h => rfl
  | n + 1, h => by
    have ih := layP_congr (base := base) (K := K) (A := A) (n := n) fun a ha => h a (by omega)
    cases hb : bl n with
    | none => simp only [alOf, hb, addAl]; exact ih
    | some k =>
      have h1 := h n (by omega) (by rw [hb]; simp)
      simp only [alOf, hb, addAl]
      rw [layP_cons, layP_cons, ih, h1]
theorem layP_more {base : Nat} {K : Heap} {A : Nat} {P : Nat → Bool} {bl : Nat → Option Blk} {k : Nat} (h : ∀ a, P a = true → a < k) : ∀ {n : Nat}, k ≤ n → layP base K A P (alOf bl n) = layP base K A P (alOf bl k)
  | 0, hk => by have : k = 0 := by omega
                rw [this]
  | n + 1, hk => by
    by_cases hkn : k = n + 1
    · rw [hkn]
    · have ih := layP_more (base := base) (K := K) (A := A) (bl := bl) h (n := n) (by omega)
      cases hb : bl n with
      | none => simp only [alOf, hb, addAl]; exact ih
      | some x =>
        have hp : P n = false := by
          cases hx : P n with
          | false => rfl
          | true => have := h n hx; omega
        simp only [alOf, hb, addAl]
        rw [layP_cons, hp, ← ih]
        rfl
noncomputable def xf (base n A : Nat) (P : Nat → Bool) (bl : Nat → Option Blk) (b : Nat) : Option Blk :=
  if base ≤ b ∧ b - base < n ∧ P (b - base) = true ∧ bitOf A (b - base) = false then bl (b - base) else none
theorem xf_at {base n A : Nat} {P : Nat → Bool} {bl : Nat → Option Blk} {b : Nat} {k : Blk} (h : xf base n A P bl b = some k) : ∃ a, b = base + a ∧ a < n ∧ P a = true ∧ bitOf A a = false ∧ bl a = some k := by
  unfold xf at h
  split at h
  · rename_i hc
    exact ⟨b - base, by omega, hc.2.1, hc.2.2.1, hc.2.2.2, h⟩
  · cases h
theorem xf_mk {base n A : Nat} {P : Nat → Bool} {bl : Nat → Option Blk} {a : Nat} (h1 : a < n) (h2 : P a = true) (h3 : bitOf A a = false) : xf base n A P bl (base + a) = bl a := by
  unfold xf
  have : base + a - base = a := by omega
  rw [this, if_pos ⟨by omega, h1, h2, h3⟩]
theorem xf_none {base n A : Nat} {P : Nat → Bool} {bl : Nat → Option Blk} {a : Nat} (h : ¬ (a < n ∧ P a = true ∧ bitOf A a = false)) : xf base n A P bl (base + a) = none := by
  unfold xf
  have : base + a - base = a := by omega
  rw [this, if_neg fun hc => h hc.2]
theorem xf_low {base n A : Nat} {P : Nat → Bool} {bl : Nat → Option Blk} {b : Nat} (h : b < base) : xf base n A P bl b = none := by
  unfold xf
  rw [if_neg fun hc => by omega]
theorem lay_get {base : Nat} {K : Heap} {A : Nat} {P : Nat → Bool} {bl : Nat → Option Blk} : ∀ (n b : Nat), (layP base K A P (alOf bl n)).blks.get b = lies (xf base n A P bl) K b
  | 0, b => by
    have : xf base 0 A P bl b = none := by unfold xf; rw [if_neg fun hc => by omega]
    rw [lies, this]
    rfl
  | n + 1, b => by
    have ih := lay_get (base := base) (K := K) (A := A) (P := P) (bl := bl) n
    have hother : b ≠ base + n → xf base (n + 1) A P bl b = xf base n A P bl b := by
      intro hb
      unfold xf
      by_cases hc : base ≤ b ∧ b - base < n ∧ P (b - base) = true ∧ bitOf A (b - base) = false
      · rw [if_pos hc, if_pos ⟨hc.1, by omega, hc.2.2⟩]
      · rw [if_neg hc, if_neg fun h => hc ⟨h.1, by omega, h.2.2⟩]
    have hsame : xf base n A P bl (base + n) = none := xf_none fun h => by omega
    cases hb : bl n with
    | none =>
      simp only [alOf, hb, addAl]
      rw [ih, lies, lies]
      by_cases hbn : b = base + n
      · subst hbn
        rw [hsame]
        have : xf base (n + 1) A P bl (base + n) = none := by
          unfold xf
          have e : base + n - base = n := by omega
          rw [e, hb]; simp
        rw [this]
      · rw [hother hbn]
    | some k =>
      simp only [alOf, hb, addAl]
      rw [layP_cons]
      simp only []
      by_cases hbn : b = base + n
      · subst hbn
        by_cases hc : P n = true ∧ bitOf A n = false
        · rw [hc.1, hc.2]
          simp only []
          rw [T.get_set_same, lies, xf_mk (by omega) hc.1 hc.2, hb]
        · have hx : xf base (n + 1) A P bl (base + n) = none := xf_none fun h => hc h.2
          rw [lies, hx]
          have : (match P n, bitOf A n with | true, false => (layP base K A P (alOf bl n)).blks.set (base + n) (some k) | _, _ => (layP base K A P (alOf bl n)).blks) = (layP base K A P (alOf bl n)).blks := by
            cases h1 : P n <;> cases h2 : bitOf A n <;> first | rfl | exact absurd ⟨h1, h2⟩ hc
          rw [this, ih, lies, hsame]
      · have : (match P n, bitOf A n with | true, false => (layP base K A P (alOf bl n)).blks.set (base + n) (some k) | _, _ => (layP base K A P (alOf bl n)).blks).get b = (layP base K A P (alOf bl n)).blks.get b := by
          cases P n <;> cases bitOf A n <;> simp only [] <;> first | rfl | rw [T.get_set_ne _ _ hbn]
        rw [this, ih, lies, lies, hother hbn]
section
variable {C : Ctx} {call : FuncId → List Value → Heap → CRes} {nt : Nat} {ops : Array Oper} {tm : T Value} {base : Nat} {K0 : Heap} (Pl : Plan C call nt ops tm base K0)
theorem Plan.at_ {i : Nat} (h : i < ops.size) : ∃ o, ops[i]? = some o := ⟨ops[i], Array.getElem?_eq_getElem h⟩
theorem Plan.lt_size {i : Nat} {o : Oper} (h : ops[i]? = some o) : i < ops.size := (Array.getElem?_eq_some_iff.1 h).1
theorem Plan.bit_lt : ∀ {i : Nat}, i < ops.size → ∀ {j}, bitOf (Pl.μ i) j = true → j < i := by
  intro i
  induction i using Nat.strongRecOn with
  | _ i ih =>
    intro hi j hj
    obtain ⟨o, ho⟩ := Plan.at_ hi
    obtain ⟨e, he, hb, h⟩ := Pl.anc i o ho j hj
    have h1 := (Pl.edge i o ho e he hb).1
    rcases h with h | h
    · rw [h]; exact h1
    · exact Nat.lt_trans (ih e.on h1 (by omega) h) h1
theorem Plan.trans : ∀ {i : Nat}, i < ops.size → ∀ {j b}, bitOf (Pl.μ i) j = true → bitOf (Pl.μ j) b = true → bitOf (Pl.μ i) b = true := by
  intro i
  induction i using Nat.strongRecOn with
  | _ i ih =>
    intro hi j b hj hb
    obtain ⟨o, ho⟩ := Plan.at_ hi
    obtain ⟨e, he, hbe, h⟩ := Pl.anc i o ho j hj
    have h1 := Pl.edge i o ho e he hbe
    rcases h with h | h
    · subst h; exact h1.2.2 b hb
    · exact h1.2.2 b (ih e.on h1.1 (by omega) h hb)
noncomputable def Plan.lvs (S : Nat → Bool) : Nat → LV
  | 0 => .nil C.ng
  | k + 1 => match S k with
    | true => putL ((ops[k]?).bind (·.dst)) (Pl.va k) (Plan.lvs S k)
    | false => Plan.lvs S k
theorem putL_ng (d : Option Tmp) (v : Value) (l : LV) : (putL d v l).ng = l.ng := by cases d <;> rfl
theorem Plan.lvs_ng (S : Nat → Bool) : ∀ k, (Pl.lvs S k).ng = C.ng
  | 0 => rfl
  | k + 1 => by
    rw [Plan.lvs]
    cases S k with
    | true => simp only []; rw [putL_ng]; exact Plan.lvs_ng S k
    | false => exact Plan.lvs_ng S k
theorem putL_find (d : Option Tmp) (v : Value) (l : LV) (t : Nat) (x : Option Value) : (putL d v l).find t x = if d = some t then some v else l.find t x := by
  cases d with
  | none => simp [putL]
  | some d =>
    simp only [putL, LV.find_cons, Option.some.injEq]
    by_cases h : t = d
    · simp [h]
    · simp [h, Ne.symm h]
theorem Plan.st_l : ∀ {k : Nat}, k ≤ ops.size → (Pl.st k).l = Pl.lvs (fun _ => true) k
  | 0, _ => by rw [Pl.first]; rfl
  | k + 1, hk => by
    obtain ⟨o, ho⟩ := Plan.at_ (ops := ops) (i := k) (by omega)
    have ih := Plan.st_l (k := k) (by omega)
    have h := (Pl.step k o ho).2
    have hd : (ops[k]?).bind (·.dst) = o.dst := by rw [ho]; rfl
    rw [Plan.lvs, hd, ← ih]
    generalize Pl.st (k + 1) = s' at h
    generalize Pl.kd k = kd at h
    generalize Pl.va k = va at h
    generalize Pl.bl k = bl at h
    cases h <;> rfl
theorem Plan.st_al : ∀ {k : Nat}, k ≤ ops.size → (Pl.st k).al = alOf Pl.bl k
  | 0, _ => by rw [Pl.first]; rfl
  | k + 1, hk => by
    obtain ⟨o, ho⟩ := Plan.at_ (ops := ops) (i := k) (by omega)
    have ih := Plan.st_al (k := k) (by omega)
    have h := (Pl.step k o ho).2
    rw [alOf, ← ih]
    generalize Pl.st (k + 1) = s' at h
    generalize Pl.kd k = kd at h
    generalize Pl.va k = va at h
    generalize Pl.bl k = bl at h
    cases h <;> rfl
noncomputable def Plan.hsOf : Nat → List Hist
  | 0 => []
  | k + 1 => match Pl.kd k with
    | .spine => ⟨k, (Pl.st k).K, (Pl.st k).A⟩ :: Plan.hsOf k
    | _ => Plan.hsOf k
theorem Plan.st_hs : ∀ {k : Nat}, k ≤ ops.size → (Pl.st k).hs = Pl.hsOf k
  | 0, _ => by rw [Pl.first]; rfl
  | k + 1, hk => by
    obtain ⟨o, ho⟩ := Plan.at_ (ops := ops) (i := k) (by omega)
    have ih := Plan.st_hs (k := k) (by omega)
    have h := (Pl.step k o ho).2
    rw [Plan.hsOf, ← ih]
    generalize Pl.st (k + 1) = s' at h
    generalize Pl.kd k = kd at h
    generalize Pl.va k = va at h
    generalize Pl.bl k = bl at h
    cases h <;> rfl
theorem Plan.st_stay {k : Nat} (hk : k < ops.size) (h : Pl.kd k ≠ .spine) : (Pl.st (k + 1)).K = (Pl.st k).K ∧ (Pl.st (k + 1)).A = (Pl.st k).A := by
  obtain ⟨o, ho⟩ := Plan.at_ (ops := ops) hk
  have hs := (Pl.step k o ho).2
  generalize Pl.st (k + 1) = s' at hs
  generalize Pl.kd k = kd at hs h
  generalize Pl.va k = va at hs
  generalize Pl.bl k = bl at hs
  cases hs <;> first | exact ⟨rfl, rfl⟩ | exact absurd rfl h
theorem Plan.const {p : Nat} : ∀ {q : Nat}, p ≤ q → q ≤ ops.size → (∀ j, p ≤ j → j < q → Pl.kd j ≠ .spine) → (Pl.st q).K = (Pl.st p).K ∧ (Pl.st q).A = (Pl.st p).A
  | 0, h1, _, _ => by have : p = 0 := by omega
                      rw [this]; exact ⟨rfl, rfl⟩
  | q + 1, h1, h2, h3 => by
    by_cases hp : p = q + 1
    · rw [hp]; exact ⟨rfl, rfl⟩
    · obtain ⟨a1, a2⟩ := Plan.const (q := q) (by omega) (by omega) fun j hj1 hj2 => h3 j hj1 (by omega)
      obtain ⟨b1, b2⟩ := Pl.st_stay (k := q) (by omega) (h3 q (by omega) (by omega))
      exact ⟨b1.trans a1, b2.trans a2⟩
theorem Plan.head : ∀ {k : Nat} {j : Nat}, j < k → Pl.kd j = .spine → ∃ j0, j0 < k ∧ Pl.kd j0 = .spine ∧ j ≤ j0 ∧ Pl.hsOf k = ⟨j0, (Pl.st j0).K, (Pl.st j0).A⟩ :: Pl.hsOf j0
  | k + 1, j, hj, hs => by
    by_cases hk : Pl.kd k = .spine
    · exact ⟨k, by omega, hk, by omega, by rw [Plan.hsOf, hk]⟩
    · have hjk : j ≠ k := by intro e; rw [e] at hs; exact hk hs
      obtain ⟨j0, h1, h2, h3, h4⟩ := Plan.head (k := k) (j := j) (by omega) hs
      refine ⟨j0, by omega, h2, h3, ?_⟩
      rw [Plan.hsOf]
      cases hkk : Pl.kd k <;> first | exact h4 | exact absurd hkk hk
theorem Plan.chain : ∀ {k : Nat}, k < ops.size → Pl.kd k = .spine → ∀ {j}, j < k → Pl.kd j = .spine → bitOf (Pl.μ k) j = true := by
  intro k
  induction k using Nat.strongRecOn with
  | _ k ih =>
    intro hk hks j hj hjs
    obtain ⟨o, ho⟩ := Plan.at_ (ops := ops) hk
    have hs := (Pl.step k o ho).2
    have hc : chainOk (Pl.μ k) (Pl.st k).hs = true := by
      generalize Pl.st (k + 1) = s' at hs
      generalize Pl.kd k = kd at hs hks
      generalize Pl.va k = va at hs
      generalize Pl.bl k = bl at hs
      cases hs <;> first | assumption | cases hks
    rw [Pl.st_hs (by omega)] at hc
    obtain ⟨j0, h1, h2, h3, h4⟩ := Pl.head hj hjs
    rw [h4] at hc
    have hb : bitOf (Pl.μ k) j0 = true := hc
    by_cases e : j = j0
    · rw [e]; exact hb
    · exact Pl.trans hk hb (ih j0 h1 (by omega) h2 (by omega) hjs)
end
end Go.Ax

set_option linter.unusedVariables false
namespace Go.Ax
section
variable {C : Ctx} {call : FuncId → List Value → Heap → CRes} {nt : Nat} {ops : Array Oper} {tm : T Value} {base : Nat} {K0 : Heap} (Pl : Plan C call nt ops tm base K0)
theorem Plan.of_skip {i : Nat} {o : Oper} (ho : ops[i]? = some o) (hk : Pl.kd i = .skip) : ∃ g, o.guard = some g ∧ wantG ops.toList (Pl.st i).l tm g = some false ∧ Pl.va i = undef ∧ Pl.bl i = none := by
  have h := (Pl.step i o ho).2
  generalize Pl.st (i + 1) = s' at h
  generalize Pl.kd i = kd at h hk
  generalize Pl.va i = va at h ⊢
  generalize Pl.bl i = bl at h ⊢
  cases h <;> first | exact ⟨_, ‹_›, ‹_›, rfl, rfl⟩ | cases hk
theorem Plan.of_float {i : Nat} {o : Oper} (ho : ops[i]? = some o) (hk : Pl.kd i = .float) : Wants ops.toList (Pl.st i).l tm o ∧ ∃ E, opSel o.op C (Pl.st i).l tm (base + i) (noMem base ops.size) = some (.val (Pl.va i) E) ∧
    waits (base + i) (E.blks.get (base + i)) = true ∧ E.next ≤ base + ops.size ∧ Pl.bl i = E.blks.get (base + i) := by
  have h := (Pl.step i o ho).2
  generalize Pl.st (i + 1) = s' at h
  generalize Pl.kd i = kd at h hk
  generalize Pl.va i = va at h ⊢
  generalize Pl.bl i = bl at h ⊢
  cases h <;> first | exact ⟨‹_›, _, ‹_›, ‹_›, ‹_›, rfl⟩ | cases hk
theorem Plan.of_read {i : Nat} {o : Oper} (ho : ops[i]? = some o) (hk : Pl.kd i = .read) : Wants ops.toList (Pl.st i).l tm o ∧ isRd C o.op = true ∧ rdE C tm o.op (Pl.st i).l (layD base (Pl.st i).K (Pl.st i).A (Pl.μ i) (Pl.st i).al) = some (Pl.va i) ∧
    backOk C tm base (Pl.st i).al o.op (Pl.st i).l (Pl.μ i) (Pl.va i) (Pl.st i).hs = true ∧ Pl.bl i = none ∧ (Pl.st (i + 1)).rs = ⟨i, o.op, (Pl.st i).l, Pl.μ i, Pl.va i⟩ :: (Pl.st i).rs := by
  have h := (Pl.step i o ho).2
  generalize Pl.st (i + 1) = s' at h ⊢
  generalize Pl.kd i = kd at h hk
  generalize Pl.va i = va at h ⊢
  generalize Pl.bl i = bl at h ⊢
  cases h <;> first | exact ⟨‹_›, ‹_›, ‹_›, ‹_›, rfl, rfl⟩ | cases hk
theorem Plan.of_spine {i : Nat} {o : Oper} (ho : ops[i]? = some o) (hk : Pl.kd i = .spine) : Wants ops.toList (Pl.st i).l tm o ∧ Runs C call tm (base + i) o (Pl.st i).l (layD base (Pl.st i).K (Pl.st i).A (Pl.μ i) (Pl.st i).al) (Pl.va i) (Pl.st (i + 1)).K ∧
    openRds C tm base (Pl.st i).al (Pl.μ i) (Pl.st (i + 1)).K (Pl.st (i + 1)).A (Pl.st i).rs = some (Pl.st (i + 1)).rs ∧ Pl.bl i = none ∧ (Pl.st (i + 1)).A = Nat.lor (Pl.st i).A (Pl.μ i) := by
  have h := (Pl.step i o ho).2
  generalize Pl.st (i + 1) = s' at h ⊢
  generalize Pl.kd i = kd at h hk
  generalize Pl.va i = va at h ⊢
  generalize Pl.bl i = bl at h ⊢
  cases h <;> first | exact ⟨‹_›, ‹_›, ‹_›, rfl, rfl⟩ | cases hk
theorem Plan.of_other {i : Nat} {o : Oper} (ho : ops[i]? = some o) (hk : Pl.kd i ≠ .spine) : ∀ r ∈ (Pl.st i).rs, r ∈ (Pl.st (i + 1)).rs := by
  have h := (Pl.step i o ho).2
  generalize Pl.st (i + 1) = s' at h ⊢
  generalize Pl.kd i = kd at h hk
  generalize Pl.va i = va at h ⊢
  generalize Pl.bl i = bl at h ⊢
  intro r hr
  cases h <;> first | exact hr | exact List.mem_cons_of_mem _ hr | exact absurd rfl hk
theorem openRds_mem {m : Nat} {al : List (Nat × Blk)} {K : Heap} {A : Nat} : ∀ {rs rs' : List Rdd}, openRds C tm base al m K A rs = some rs' → ∀ r ∈ rs, bitOf m r.i = false → r ∈ rs' ∧ rdE C tm r.o r.l (layD base K A r.m al) = some r.v
  | [], rs', h, r, hr, _ => by cases hr
  | x :: rs, rs', h, r, hr, hb => by
    replace h : Bool.rec (motive := fun _ => Option (List Rdd)) (og (isV x.v (rdE C tm x.o x.l (layD base K A x.m al))) (ob (openRds C tm base al m K A rs) fun rs => some (x :: rs))) (openRds C tm base al m K A rs) (bitOf m x.i) = some rs' := h
    cases hx : bitOf m x.i with
    | true =>
      rw [hx] at h
      rcases List.mem_cons.1 hr with rfl | hr
      · rw [hx] at hb; cases hb
      · exact openRds_mem h r hr hb
    | false =>
      rw [hx] at h
      obtain ⟨h1, h2⟩ := og_eq_some h
      obtain ⟨rs1, h3, h4⟩ := ob_eq_some h2
      cases h4
      rcases List.mem_cons.1 hr with rfl | hr
      · exact ⟨by simp, isV_eq h1⟩
      · obtain ⟨g1, g2⟩ := openRds_mem h3 r hr hb
        exact ⟨List.mem_cons_of_mem _ g1, g2⟩
def Plan.readAt (o : Oper) (i k : Nat) : Prop := rdE C tm o.op (Pl.st i).l (layP base (Pl.st k).K (Pl.st k).A (bitOf (Pl.μ i)) (alOf Pl.bl ops.size)) = some (Pl.va i)
theorem Plan.lay_at {i k : Nat} (hi : i < ops.size) (hik : i ≤ k) (hk : k ≤ ops.size) (K : Heap) (A : Nat) : layD base K A (Pl.μ i) (alOf Pl.bl k) = layP base K A (bitOf (Pl.μ i)) (alOf Pl.bl ops.size) := by
  rw [layD_eq, layP_more (fun a h => Pl.bit_lt hi h) hik, layP_more (fun a h => Pl.bit_lt hi h) (Nat.le_of_lt hi)]
theorem Plan.back {i p : Nat} {o : Oper} (hi : i < ops.size) (h1 : ∀ j, p ≤ j → j < i → Pl.kd j = .spine → bitOf (Pl.μ i) j = false) : ∀ k, k ≤ i → p ≤ k →
    backOk C tm base (alOf Pl.bl i) o.op (Pl.st i).l (Pl.μ i) (Pl.va i) (Pl.hsOf k) = true → Pl.readAt o i k → Pl.readAt o i p
  | 0, _, hp, _, hr => by have : p = 0 := by omega
                          rw [this]; exact hr
  | k + 1, hk, hp, hb, hr => by
    by_cases e : p = k + 1
    · rw [e]; exact hr
    · by_cases hs : Pl.kd k = .spine
      · have hbit := h1 k (by omega) (by omega) hs
        have hh : Pl.hsOf (k + 1) = ⟨k, (Pl.st k).K, (Pl.st k).A⟩ :: Pl.hsOf k := by rw [Plan.hsOf, hs]
        rw [hh] at hb
        replace hb : Bool.rec (motive := fun _ => Bool) (Bool.rec (motive := fun _ => Bool) false (backOk C tm base (alOf Pl.bl i) o.op (Pl.st i).l (Pl.μ i) (Pl.va i) (Pl.hsOf k)) (isV (Pl.va i) (rdE C tm o.op (Pl.st i).l (layD base (Pl.st k).K (Pl.st k).A (Pl.μ i) (alOf Pl.bl i))))) true (bitOf (Pl.μ i) k) = true := hb
        rw [hbit] at hb
        cases hv : isV (Pl.va i) (rdE C tm o.op (Pl.st i).l (layD base (Pl.st k).K (Pl.st k).A (Pl.μ i) (alOf Pl.bl i))) with
        | false => rw [hv] at hb; cases hb
        | true =>
          rw [hv] at hb
          refine Plan.back hi h1 k (by omega) (by omega) hb ?_
          have := isV_eq hv
          rw [Pl.lay_at hi (Nat.le_refl _) (Nat.le_of_lt hi)] at this
          exact this
      · have hh : Pl.hsOf (k + 1) = Pl.hsOf k := by
          rw [Plan.hsOf]
          cases hkk : Pl.kd k <;> first | rfl | exact absurd hkk hs
        rw [hh] at hb
        obtain ⟨e1, e2⟩ := Pl.st_stay (k := k) (by omega) hs
        refine Plan.back hi h1 k (by omega) (by omega) hb ?_
        unfold Plan.readAt at hr ⊢
        rw [e1, e2] at hr
        exact hr
theorem Plan.fwd {i p : Nat} {o : Oper} (ho : ops[i]? = some o) (hk : Pl.kd i = .read) (hp : p ≤ ops.size) (h2 : ∀ j, i < j → j < p → Pl.kd j = .spine → bitOf (Pl.μ j) i = false) (hr : Pl.readAt o i i) : ∀ k, i < k → k ≤ p →
    (⟨i, o.op, (Pl.st i).l, Pl.μ i, Pl.va i⟩ : Rdd) ∈ (Pl.st k).rs ∧ Pl.readAt o i k
  | 0, h, _ => by omega
  | k + 1, hik, hkp => by
    have hi := Plan.lt_size ho
    by_cases e : k = i
    · subst e
      obtain ⟨_, _, _, _, _, h3⟩ := Pl.of_read ho hk
      obtain ⟨e1, e2⟩ := Pl.st_stay (k := k) hi (by rw [hk]; simp)
      refine ⟨by rw [h3]; simp, ?_⟩
      unfold Plan.readAt at hr ⊢
      rw [e1, e2]
      exact hr
    · obtain ⟨g1, g2⟩ := Plan.fwd ho hk hp h2 hr k (by omega) (by omega)
      obtain ⟨ok, hok⟩ := Plan.at_ (ops := ops) (i := k) (by omega)
      by_cases hs : Pl.kd k = .spine
      · obtain ⟨_, _, h3, _, _⟩ := Pl.of_spine hok hs
        obtain ⟨a1, a2⟩ := openRds_mem h3 _ g1 (h2 k (by omega) (by omega) hs)
        refine ⟨a1, ?_⟩
        simp only [] at a2
        rw [Pl.st_al (by omega), Pl.lay_at hi (by omega) (by omega)] at a2
        exact a2
      · obtain ⟨e1, e2⟩ := Pl.st_stay (k := k) (by omega) hs
        refine ⟨Pl.of_other hok hs _ g1, ?_⟩
        unfold Plan.readAt at g2 ⊢
        rw [e1, e2]
        exact g2
theorem Plan.read_ok {i p : Nat} {o : Oper} (ho : ops[i]? = some o) (hk : Pl.kd i = .read) (hp : p ≤ ops.size) (h1 : ∀ j, p ≤ j → j < i → Pl.kd j = .spine → bitOf (Pl.μ i) j = false)
    (h2 : ∀ j, i < j → j < p → Pl.kd j = .spine → bitOf (Pl.μ j) i = false) : Pl.readAt o i p := by
  have hi := Plan.lt_size ho
  obtain ⟨_, _, h3, h4, _, _⟩ := Pl.of_read ho hk
  rw [Pl.st_al (by omega)] at h3 h4
  rw [Pl.lay_at hi (Nat.le_refl _) (by omega)] at h3
  rw [Pl.st_hs (by omega)] at h4
  rcases Nat.lt_trichotomy p i with h | h | h
  · exact Pl.back hi h1 i (Nat.le_refl _) (by omega) h4 h3
  · rw [h]; exact h3
  · exact (Pl.fwd ho hk hp h2 h3 p h (Nat.le_refl _)).2
theorem Plan.A_bit : ∀ {p : Nat}, p ≤ ops.size → ∀ {a}, bitOf (Pl.st p).A a = true → ∃ j, j < p ∧ Pl.kd j = .spine ∧ bitOf (Pl.μ j) a = true
  | 0, _, a, h => by
    rw [Pl.first] at h
    replace h : bitOf 0 a = true := h
    rw [bitOf_zero] at h
    cases h
  | p + 1, hp, a, h => by
    obtain ⟨o, ho⟩ := Plan.at_ (ops := ops) (i := p) (by omega)
    by_cases hs : Pl.kd p = .spine
    · obtain ⟨_, _, _, _, h3⟩ := Pl.of_spine ho hs
      rw [h3, bitOf_or, Bool.or_eq_true] at h
      rcases h with h | h
      · obtain ⟨j, g1, g2, g3⟩ := Plan.A_bit (p := p) (by omega) h
        exact ⟨j, by omega, g2, g3⟩
      · exact ⟨p, by omega, hs, h⟩
    · rw [(Pl.st_stay (k := p) (by omega) hs).2] at h
      obtain ⟨j, g1, g2, g3⟩ := Plan.A_bit (p := p) (by omega) h
      exact ⟨j, by omega, g2, g3⟩
theorem Plan.view {S : Nat → Bool} (hd : ∀ j, S j = true → ∀ b, bitOf (Pl.μ j) b = true → S b = true) {i : Nat} {o : Oper} (ho : ops[i]? = some o) (hS : S i = false) (ha : ∀ b, bitOf (Pl.μ i) b = true → S b = true)
    {t : Nat} (ht : t ∈ looksAt ops.toList o) (d : Option Value) : (Pl.lvs S ops.size).find t d = (Pl.st i).l.find t d := by
  have hi := Plan.lt_size ho
  have key : ∀ k, k ≤ ops.size → (Pl.lvs S k).find t d = (Pl.lvs (fun _ => true) (min k i)).find t d := by
    intro k
    induction k with
    | zero => intro _; rw [Nat.zero_min]; rfl
    | succ k ih =>
      intro hk
      have ih := ih (by omega)
      obtain ⟨ok, hok⟩ := Plan.at_ (ops := ops) (i := k) (by omega)
      have hb : (ops[k]?).bind (·.dst) = ok.dst := by rw [hok]; rfl
      have hl : (Pl.lvs S (k + 1)).find t d = if S k = true ∧ ok.dst = some t then some (Pl.va k) else (Pl.lvs S k).find t d := by
        rw [Plan.lvs, hb]
        cases hk : S k with
        | true => simp only []; rw [putL_find]; simp
        | false => simp
      rw [hl, ih]
      rcases Nat.lt_or_ge k i with hki | hki
      · have e1 : min (k + 1) i = k + 1 := by omega
        have e2 : min k i = k := by omega
        rw [e1, e2, Plan.lvs, hb]
        simp only []
        rw [putL_find]
        by_cases hdt : ok.dst = some t
        · have := ha k (Pl.reads i o ho t ht k ok hki hok hdt)
          simp [hdt, this]
        · simp [hdt]
      · have e1 : min (k + 1) i = i := by omega
        have e2 : min k i = i := by omega
        rw [e1, e2]
        have hno : ¬ (S k = true ∧ ok.dst = some t) := by
          intro ⟨h1, h2⟩
          by_cases hki2 : k = i
          · rw [hki2, hS] at h1; cases h1
          · have := hd k h1 i (Pl.writes k ok hok t h2 i o (by omega) ho (.inr ht))
            rw [hS] at this; cases this
        rw [if_neg hno]
  rw [key ops.size (Nat.le_refl _), Pl.st_l (Nat.le_of_lt hi)]
  have : min ops.size i = i := by omega
  rw [this]
theorem Plan.view_put {S S' : Nat → Bool} (hd : ∀ j, S j = true → ∀ b, bitOf (Pl.μ j) b = true → S b = true) {i : Nat} {o : Oper} (ho : ops[i]? = some o) (hS : S i = false) (hS' : ∀ j, S' j = if j = i then true else S j)
    (t : Nat) (d : Option Value) : (Pl.lvs S' ops.size).find t d = if o.dst = some t then some (Pl.va i) else (Pl.lvs S ops.size).find t d := by
  have hi := Plan.lt_size ho
  have key : ∀ k, k ≤ ops.size → (Pl.lvs S' k).find t d = if i < k ∧ o.dst = some t then some (Pl.va i) else (Pl.lvs S k).find t d := by
    intro k
    induction k with
    | zero => intro _; simp; rfl
    | succ k ih =>
      intro hk
      have ih := ih (by omega)
      obtain ⟨ok, hok⟩ := Plan.at_ (ops := ops) (i := k) (by omega)
      have hb : (ops[k]?).bind (·.dst) = ok.dst := by rw [hok]; rfl
      have hl : ∀ S : Nat → Bool, (Pl.lvs S (k + 1)).find t d = if S k = true ∧ ok.dst = some t then some (Pl.va k) else (Pl.lvs S k).find t d := by
        intro S
        rw [Plan.lvs, hb]
        cases hk : S k with
        | true => simp only []; rw [putL_find]; simp
        | false => simp
      rw [hl S', hl S, ih]
      by_cases hki : k = i
      · subst hki
        rw [hok] at ho
        cases ho
        have h1 : S' k = true := by rw [hS']; simp
        simp only [h1, hS, Nat.lt_irrefl, Nat.lt_succ_self, true_and, false_and, if_false, Bool.false_eq_true]
      · have h1 : S' k = S k := by rw [hS', if_neg hki]
        rw [h1]
        by_cases hc : S k = true ∧ ok.dst = some t
        · rw [if_pos hc]
          have hno : ¬ (i < k + 1 ∧ o.dst = some t) := by
            intro ⟨g1, g2⟩
            have := hd k hc.1 i (Pl.writes k ok hok t hc.2 i o (by omega) ho (.inl g2))
            rw [hS] at this; cases this
          rw [if_neg hno, if_pos hc]
        · rw [if_neg hc, if_neg hc]
          have e : (i < k + 1) ↔ (i < k) := by omega
          simp only [e]
  rw [key ops.size (Nat.le_refl _)]
  simp [hi]
end
end Go.Ax

set_option linter.unusedVariables false
namespace Go.Ax
theorem look_tmp_mem {o : Oper} {ops : List Oper} {t : Nat} (h : Operand.tmp t ∈ o.op.operands.toList) : t ∈ looksAt ops o :=
  List.mem_append_left _ (List.mem_filterMap.2 ⟨.tmp t, h, rfl⟩)
section
variable {C : Ctx} {call : FuncId → List Value → Heap → CRes} {nt : Nat} {ops : Array Oper} {tm : T Value} {base : Nat} {K0 : Heap} (Pl : Plan C call nt ops tm base K0)
noncomputable def Plan.HH (S : Nat → Bool) (p : Nat) : Heap := layP base (Pl.st p).K (Pl.st p).A S (alOf Pl.bl ops.size)
theorem Plan.HH_get (S : Nat → Bool) (p b : Nat) : (Pl.HH S p).blks.get b = lies (xf base ops.size (Pl.st p).A S Pl.bl) (Pl.st p).K b := lay_get ops.size b
theorem Plan.bl_waits {a : Nat} {k : Blk} (ha : a < ops.size) (h : Pl.bl a = some k) : waits (base + a) (some k) = true := by
  obtain ⟨o, ho⟩ := Plan.at_ (ops := ops) ha
  cases hk : Pl.kd a with
  | skip => obtain ⟨_, _, _, _, h1⟩ := Pl.of_skip ho hk; rw [h1] at h; cases h
  | read => obtain ⟨_, _, _, _, h1, _⟩ := Pl.of_read ho hk; rw [h1] at h; cases h
  | spine => obtain ⟨_, _, _, h1, _⟩ := Pl.of_spine ho hk; rw [h1] at h; cases h
  | float =>
    obtain ⟨_, E, _, h2, _, h1⟩ := Pl.of_float ho hk
    rw [← h1, h] at h2
    exact h2
structure Plan.Inv (B : Nat) (ρ0 : Env) (H0 : Heap) (w0 : World) (S : Nat → Bool) (p : Nat) (ρ : Env) (a : Act) (w : World) : Prop where
  lt : ∀ j, S j = true → j < ops.size
  down : ∀ j, S j = true → ∀ b, bitOf (Pl.μ j) b = true → S b = true
  ple : p ≤ ops.size
  pos : ∀ j, j < ops.size → Pl.kd j = .spine → (S j = true ↔ j < p)
  good : Good ρ (Pl.HH S p) B w
  rel : Rel C ρ (Pl.lvs S ops.size) tm a
  size : a.tmps.size = nt
  defers : a.defers = []
  ids : ∀ i, i < ops.size → S i = false → ρ (base + i) = none
  std : Std ρ0 H0 w0 ρ (Pl.HH S p) w
  free : ∀ x, x < ops.size → Pl.bl x ≠ none → bitOf (Pl.st p).A x = false → (Pl.st p).K.blks.get (base + x) = none
  own : ∀ x, x < ops.size → Pl.bl x ≠ none → S x = true → bitOf (Pl.st p).A x = false → (Pl.st p).K.noFam (base + x) ∧ (Pl.st p).K.fams.get (base + x) = none
  next : base + ops.size ≤ (Pl.st p).K.next
  base : H0.next ≤ base
variable {Pl} {B : Nat} {ρ0 : Env} {H0 : Heap} {w0 : World} {S S' : Nat → Bool} {p : Nat} {ρ : Env} {a : Act} {w : World}
theorem Plan.Inv.waits (I : Pl.Inv B ρ0 H0 w0 S p ρ a w) {X : Nat → Option Blk} {P : Nat → Bool} {x : Nat} {k : Blk} (hx : x < ops.size) (hb : Pl.bl x = some k) (hS : S x = true) (hA : bitOf (Pl.st p).A x = false) (hP : P x = false) :
    Waits X (layP base (Pl.st p).K (Pl.st p).A P (alOf Pl.bl ops.size)) (base + x) k := by
  obtain ⟨h1, h2, h3⟩ := waits_eq (Pl.bl_waits hx hb)
  have hne : Pl.bl x ≠ none := by rw [hb]; simp
  have hfree := I.free x hx hne hA
  obtain ⟨o1, o2⟩ := I.own x hx hne hS hA
  refine ⟨h1, h2, h3, ?_, ?_, o2, ?_⟩
  · intro k' hk'
    rw [lay_get, lies, xf_none (fun h => by rw [hP] at h; cases h.2.1)] at hk'
    rw [hfree] at hk'
    cases hk'
  · intro b vals n esz pos frz hg
    rw [lay_get, lies] at hg
    cases hxf : xf base ops.size (Pl.st p).A P Pl.bl b with
    | none =>
      rw [hxf] at hg
      exact o1 b vals n esz pos frz hg
    | some k' =>
      rw [hxf] at hg
      obtain ⟨y, e1, e2, e3, e4, e5⟩ := xf_at hxf
      replace hg : some k' = some (Blk.cells vals n esz (base + x) pos frz false) := hg
      cases hg
      have := (waits_eq (Pl.bl_waits e2 e5)).2.2 _ _ _ _ _ _ _ rfl
      have hxy : x = y := by omega
      rw [hxy, e3] at hP
      cases hP
  · show base + x < (Pl.st p).K.next
    have := I.next
    omega
theorem Plan.Inv.sel (I : Pl.Inv B ρ0 H0 w0 S p ρ a w) {i : Nat} {o : Oper} (ho : ops[i]? = some o) (hS : S i = false) (ha : ∀ b, bitOf (Pl.μ i) b = true → S b = true) (id : Nat) (H : Heap) :
    opSel o.op C (Pl.lvs S ops.size) tm id H = opSel o.op C (Pl.st i).l tm id H := by
  refine opSel_congr ?_ id H
  intro x hx
  refine look_congr ?_ ?_
  · rw [Pl.lvs_ng, Pl.st_l (Nat.le_of_lt (Plan.lt_size ho)), Pl.lvs_ng]
  · intro t e
    subst e
    exact Pl.view I.down ho hS ha (look_tmp_mem hx) _
theorem Plan.Inv.wantG (I : Pl.Inv B ρ0 H0 w0 S p ρ a w) {i : Nat} {o : Oper} (ho : ops[i]? = some o) (hS : S i = false) (ha : ∀ b, bitOf (Pl.μ i) b = true → S b = true) {g : Nat × Bool} (hg : o.guard = some g) :
    wantG ops.toList (Pl.lvs S ops.size) tm g = wantG ops.toList (Pl.st i).l tm g :=
  wantG_congr hg fun t ht => Pl.view I.down ho hS ha (List.mem_append_right _ ht) _
theorem Plan.Inv.wanted (I : Pl.Inv B ρ0 H0 w0 S p ρ a w) {i : Nat} {o : Oper} (ho : ops[i]? = some o) (hS : S i = false) (ha : ∀ b, bitOf (Pl.μ i) b = true → S b = true) (hw : Wants ops.toList (Pl.st i).l tm o) :
    Region.wanted o (yielded ops a.tmps) = true := by
  cases hg : o.guard with
  | none => simp [Region.wanted, hg]
  | some g => exact wantG_sound I.rel hg ((I.wantG ho hS ha hg).trans (hw g hg))
theorem Plan.Inv.step (I : Pl.Inv B ρ0 H0 w0 S p ρ a w) {i : Nat} {o : Oper} (ho : ops[i]? = some o) (hS : S i = false) (ha : ∀ b, bitOf (Pl.μ i) b = true → S b = true) (hS' : ∀ j, S' j = if j = i then true else S j)
    {p' : Nat} {ρ' : Env} {v' : Value} {w' : World} (hv : conc ρ' (Pl.va i) = some v') (hR : Rep ρ' (Pl.HH S' p') B w') (hT : Stp (base + i) ρ (Pl.HH S p) w ρ' (Pl.HH S' p') w') (hp : p' ≤ ops.size)
    (hpos : ∀ j, j < ops.size → Pl.kd j = .spine → (S' j = true ↔ j < p'))
    (hfree : ∀ x, x < ops.size → Pl.bl x ≠ none → bitOf (Pl.st p').A x = false → (Pl.st p').K.blks.get (base + x) = none)
    (hown : ∀ x, x < ops.size → Pl.bl x ≠ none → S' x = true → bitOf (Pl.st p').A x = false → (Pl.st p').K.noFam (base + x) ∧ (Pl.st p').K.fams.get (base + x) = none) :
    Pl.Inv B ρ0 H0 w0 S' p' ρ' (a.put o.dst v') w' where
  lt := fun j hj => by
    rw [hS'] at hj
    by_cases e : j = i
    · rw [e]; exact Plan.lt_size ho
    · rw [if_neg e] at hj; exact I.lt j hj
  down := fun j hj b hb => by
    rw [hS'] at hj ⊢
    by_cases eb : b = i
    · rw [if_pos eb]
    · rw [if_neg eb]
      by_cases e : j = i
      · rw [e] at hb; exact ha b hb
      · rw [if_neg e] at hj; exact I.down j hj b hb
  ple := hp
  pos := hpos
  good := I.good.step hR hT
  rel := by
    refine ⟨?_, (show GlobOk C ρ from I.rel.glob).mono hT.le, Pl.lvs_ng _ _⟩
    intro t v e
    have hview := Pl.view_put I.down ho hS hS' t (tm.get t)
    replace e : (Pl.lvs S' ops.size).find t (tm.get t) = some v := e
    rw [hview] at e
    by_cases hd : o.dst = some t
    · rw [if_pos hd] at e
      cases e
      have hlt : t < a.tmps.size := by rw [I.size]; exact (Pl.step i o ho).1 t hd
      exact ⟨v', by rw [hd]; simp [Act.put, hlt], hv⟩
    · rw [if_neg hd] at e
      obtain ⟨x, h1, h2⟩ := I.rel.tmps t v e
      refine ⟨x, ?_, conc_mono hT.le h2⟩
      cases hdd : o.dst with
      | none => exact h1
      | some d =>
        have hne : d ≠ t := fun e => hd (by rw [hdd, e])
        simp [Act.put, Array.getElem?_setIfInBounds_ne hne, h1]
  size := by rw [put_size]; exact I.size
  defers := by rw [put_defers]; exact I.defers
  ids := fun j hj hSj => by
    rw [hS'] at hSj
    by_cases e : j = i
    · rw [if_pos e] at hSj; cases hSj
    · rw [if_neg e] at hSj
      have h0 := I.ids j hj hSj
      cases h : ρ' (base + j) with
      | none => rfl
      | some l =>
        exfalso
        have hn := I.next
        rcases (hT.new _ l h h0).1 with h1 | h1
        · omega
        · replace h1 : (Pl.st p).K.next ≤ base + j := h1
          omega
  std := Std.step I.std hT (by have := I.base; omega)
  free := hfree
  own := hown
  next := Nat.le_trans I.next hT.mono
  base := I.base
theorem Plan.HH_same {p : Nat} {i : Nat} (hb : Pl.bl i = none) (hS' : ∀ j, S' j = if j = i then true else S j) : Pl.HH S' p = Pl.HH S p := by
  refine layP_congr ?_
  intro x _ hx
  rw [hS']
  by_cases e : x = i
  · rw [e] at hx; exact absurd hb hx
  · rw [if_neg e]
theorem Plan.Inv.split (I : Pl.Inv B ρ0 H0 w0 S p ρ a w) {m : Nat} (hm : ∀ b, bitOf m b = true → S b = true) :
    (∀ b, (Pl.HH S p).blks.get b = lies (xf base ops.size (Pl.st p).A (fun x => S x && !bitOf m x) Pl.bl) (layP base (Pl.st p).K (Pl.st p).A (bitOf m) (alOf Pl.bl ops.size)) b) ∧
    (∀ b k, xf base ops.size (Pl.st p).A (fun x => S x && !bitOf m x) Pl.bl b = some k → Waits (xf base ops.size (Pl.st p).A (fun x => S x && !bitOf m x) Pl.bl) (layP base (Pl.st p).K (Pl.st p).A (bitOf m) (alOf Pl.bl ops.size)) b k) := by
  constructor
  · intro b
    rw [Pl.HH_get]
    by_cases hlow : b < base
    · rw [lies, lies, xf_low hlow, xf_low hlow, lay_get, lies, xf_low hlow]
    · obtain ⟨x, rfl⟩ : ∃ x, b = base + x := ⟨b - base, by omega⟩
      by_cases hx : x < ops.size ∧ S x = true ∧ bitOf (Pl.st p).A x = false
      · rw [lies, xf_mk hx.1 hx.2.1 hx.2.2]
        cases hbm : bitOf m x with
        | true =>
          rw [lies, xf_none (fun h => by simp [hbm] at h), lay_get, lies, xf_mk hx.1 hbm hx.2.2]
        | false =>
          rw [lies, xf_mk hx.1 (by simp [hx.2.1, hbm]) hx.2.2]
          cases hbl : Pl.bl x with
          | some k => rfl
          | none =>
            simp only []
            rw [lay_get, lies, xf_none (fun h => by rw [hbm] at h; cases h.2.1)]
      · rw [lies, xf_none hx, lies, xf_none (fun h => by
          have h2 := h.2.1
          rw [Bool.and_eq_true] at h2
          exact hx ⟨h.1, h2.1, h.2.2⟩), lay_get, lies, xf_none (fun h => hx ⟨h.1, hm x h.2.1, h.2.2⟩)]
  · intro b k h
    obtain ⟨x, rfl, h1, h2, h3, h4⟩ := xf_at h
    rw [Bool.and_eq_true, Bool.not_eq_true'] at h2
    exact I.waits h1 h4 h2.1 h3 h2.2
section
variable (K : C.Ok) (hc : CallOk C B call)
include K hc
theorem Plan.Inv.run (I : Pl.Inv B ρ0 H0 w0 S p ρ a w) {i : Nat} {o : Oper} (ho : ops[i]? = some o) (hS : S i = false) (ha : ∀ b, bitOf (Pl.μ i) b = true → S b = true) (hS' : ∀ j, S' j = if j = i then true else S j)
    {Q : Exit → Act → World → Prop} {k : Act → World → Prop} (hk : ∀ p' ρ' a' w', Pl.Inv B ρ0 H0 w0 S' p' ρ' a' w' → k a' w') : wpOp C.P ops Q i k a w := by
  have hi := Plan.lt_size ho
  have hposSame : Pl.kd i ≠ .spine → ∀ j, j < ops.size → Pl.kd j = .spine → (S' j = true ↔ j < p) := by
    intro hne j hj hs
    have : j ≠ i := by intro e; rw [e] at hs; exact hne hs
    rw [hS', if_neg this]
    exact I.pos j hj hs
  have hownSame : Pl.bl i = none → ∀ x, x < ops.size → Pl.bl x ≠ none → S' x = true → bitOf (Pl.st p).A x = false → (Pl.st p).K.noFam (base + x) ∧ (Pl.st p).K.fams.get (base + x) = none := by
    intro hb x hx hbx hSx hA
    have : x ≠ i := by intro e; rw [e] at hbx; exact hbx hb
    rw [hS', if_neg this] at hSx
    exact I.own x hx hbx hSx hA
  have hid := I.ids i hi hS
  unfold wpOp
  rw [ho]
  simp only []
  cases hkd : Pl.kd i with
  | skip =>
    obtain ⟨g, h1, h2, h3, h4⟩ := Pl.of_skip ho hkd
    have hw := wantG_sound I.rel h1 ((I.wantG ho hS ha h1).trans h2)
    rw [hw]
    simp only [Bool.false_eq_true, if_false]
    refine hk p ρ _ w (I.step ho hS ha hS' (by rw [h3]; exact undef_conc ρ) ?_ ?_ I.ple (hposSame (by rw [hkd]; simp)) I.free (hownSame h4))
    · rw [Plan.HH_same h4 hS']; exact I.good.rep
    · rw [Plan.HH_same h4 hS']; exact Stp.refl _ _ _ _
  | float =>
    obtain ⟨hwt, E, h1, h2, h3, h4⟩ := Pl.of_float ho hkd
    rw [I.wanted ho hS ha hwt, if_pos rfl]
    refine .inl ?_
    have h1' := (I.sel ho hS ha (base + i) (noMem base ops.size)).trans h1
    obtain ⟨ρ', v', w', e1, e2, e3, e4⟩ := op_sound K (Rep.none I.good.rep (base + ops.size)) I.rel hid (o := o) h1'
    unfold Oper.wp
    rw [e1]
    have hA : bitOf (Pl.st p).A i = false := by
      cases h : bitOf (Pl.st p).A i with
      | false => rfl
      | true =>
        obtain ⟨j, g1, g2, g3⟩ := Pl.A_bit I.ple h
        have := I.down j ((I.pos j (by have := I.ple; omega) g2).2 g1) i g3
        rw [hS] at this; cases this
    have hG' : ∀ b, (Pl.HH S' p).blks.get b = if b = base + i then (match E.blks.get (base + i) with | some k => some k | none => (Pl.HH S p).blks.get b) else (Pl.HH S p).blks.get b := by
      intro b
      rw [Pl.HH_get, Pl.HH_get]
      by_cases hb : b = base + i
      · subst hb
        rw [if_pos rfl, lies, xf_mk hi (by rw [hS']; simp) hA, h4]
        cases E.blks.get (base + i) with
        | some k => rfl
        | none => simp only []; rw [lies, xf_none (fun h => by rw [hS] at h; cases h.2.1)]
      · rw [if_neg hb, lies, lies]
        have : xf base ops.size (Pl.st p).A S' Pl.bl b = xf base ops.size (Pl.st p).A S Pl.bl b := by
          by_cases hlow : b < base
          · rw [xf_low hlow, xf_low hlow]
          · have e : S' (b - base) = S (b - base) := by rw [hS', if_neg (by omega)]
            unfold xf
            rw [e]
        rw [this]
    obtain ⟨r1, r2⟩ := frame_float (G' := Pl.HH S' p) I.good.rep e3 e4 h3 I.next hid (by omega) h2 hG' rfl rfl
    refine hk p ρ' _ w' (I.step ho hS ha hS' e2 r1 r2 I.ple (hposSame (by rw [hkd]; simp)) I.free ?_)
    intro x hx hbx hSx hAx
    by_cases e : x = i
    · subst e
      have hget : (Pl.st p).K.blks.get (base + x) = none := I.free x hx hbx hAx
      have hin : ∀ {b k}, (Pl.st p).K.blks.get b = some k → (Pl.HH S p).blks.get b = some k := by
        intro b k hbk
        rw [Pl.HH_get, lies]
        cases hxf : xf base ops.size (Pl.st p).A S Pl.bl b with
        | none => exact hbk
        | some k' =>
          obtain ⟨y, rfl, g1, g2, g3, g4⟩ := xf_at hxf
          rw [I.free y g1 (by rw [g4]; simp) g3] at hbk
          cases hbk
      refine ⟨?_, ?_⟩
      · intro b vals n esz pos frz hb
        obtain ⟨l, hl⟩ := I.good.rep.famd b vals n esz _ pos frz false (hin hb)
        rw [hid] at hl; cases hl
      · cases hf : (Pl.st p).K.fams.get (base + x) with
        | none => rfl
        | some l =>
          obtain ⟨y, hy⟩ := I.good.rep.famn (base + x) l hf
          rw [hid] at hy; cases hy
    · rw [hS', if_neg e] at hSx
      exact I.own x hx hbx hSx hAx
  | read =>
    obtain ⟨hwt, h1, _, _, h4, _⟩ := Pl.of_read ho hkd
    rw [I.wanted ho hS ha hwt, if_pos rfl]
    refine .inl ?_
    have hr := Pl.read_ok ho hkd I.ple (fun j hj1 hj2 hs => by
      cases hb : bitOf (Pl.μ i) j with
      | false => rfl
      | true => have := (I.pos j (by omega) hs).1 (ha j hb); omega) (fun j hj1 hj2 hs => by
      cases hb : bitOf (Pl.μ j) i with
      | false => rfl
      | true =>
        have := I.down j ((I.pos j (by have := I.ple; omega) hs).2 hj2) i hb
        rw [hS] at this; cases this)
    have hsel := (I.sel ho hS ha (base + i) _).trans (isRd_spec h1 hr (base + i))
    obtain ⟨hsp, hwt2⟩ := I.split ha
    have hRK := Rep.sub I.good.rep hsp rfl rfl hwt2
    obtain ⟨ρ', v', w', e1, e2, e3, e4⟩ := op_sound K hRK I.rel hid (o := o) hsel
    unfold Oper.wp
    rw [e1]
    obtain ⟨r1, r2⟩ := frame_spine (G' := Pl.HH S p) I.good.rep hsp rfl rfl hwt2 (fun b k hb => by
      obtain ⟨x, rfl, g1, g2, _, _⟩ := xf_at hb
      rw [Bool.and_eq_true] at g2
      intro e
      have : x = i := by omega
      rw [this, hS] at g2
      cases g2.1) e3 e4 hsp rfl rfl
    refine hk p ρ' _ w' (I.step ho hS ha hS' e2 ?_ ?_ I.ple (hposSame (by rw [hkd]; simp)) I.free (hownSame h4))
    · rw [Plan.HH_same h4 hS']; exact r1
    · rw [Plan.HH_same h4 hS']; exact r2
  | spine =>
    obtain ⟨hwt, hruns, _, h4, hA⟩ := Pl.of_spine ho hkd
    rw [I.wanted ho hS ha hwt, if_pos rfl]
    refine .inl ?_
    have hpi : p ≤ i := by
      rcases Nat.lt_or_ge i p with h | h
      · have := (I.pos i hi hkd).2 h
        rw [hS] at this; cases this
      · exact h
    obtain ⟨c1, c2⟩ := Pl.const hpi (Nat.le_of_lt hi) (fun j hj1 hj2 hs => by
      have := (I.pos j (by omega) hs).1 (ha j (Pl.chain hi hkd hj2 hs))
      omega)
    have hheap : layD base (Pl.st i).K (Pl.st i).A (Pl.μ i) (Pl.st i).al = layP base (Pl.st p).K (Pl.st p).A (bitOf (Pl.μ i)) (alOf Pl.bl ops.size) := by
      rw [Pl.st_al (Nat.le_of_lt hi), Pl.lay_at hi (Nat.le_refl _) (Nat.le_of_lt hi), c1, c2]
    rw [hheap] at hruns
    obtain ⟨hsp, hwt2⟩ := I.split ha
    have hRK := Rep.sub I.good.rep hsp rfl rfl hwt2
    have fin : ∀ ρ' v' w', conc ρ' (Pl.va i) = some v' → Rep ρ' (Pl.st (i + 1)).K B w' → Stp (base + i) ρ (layP base (Pl.st p).K (Pl.st p).A (bitOf (Pl.μ i)) (alOf Pl.bl ops.size)) w ρ' (Pl.st (i + 1)).K w' → k (a.put o.dst v') w' := by
      intro ρ' v' w' e2 e3 e4
      have hx : ∀ b k, xf base ops.size (Pl.st p).A (fun x => S x && !bitOf (Pl.μ i) x) Pl.bl b = some k → b ≠ base + i := by
        intro b k hb
        obtain ⟨x, rfl, g1, g2, _, _⟩ := xf_at hb
        rw [Bool.and_eq_true] at g2
        intro e
        have : x = i := by omega
        rw [this, hS] at g2
        cases g2.1
      have hG' : ∀ b, (Pl.HH S' (i + 1)).blks.get b = lies (xf base ops.size (Pl.st p).A (fun x => S x && !bitOf (Pl.μ i) x) Pl.bl) (Pl.st (i + 1)).K b := by
        intro b
        rw [Pl.HH_get, lies, lies]
        have : xf base ops.size (Pl.st (i + 1)).A S' Pl.bl b = xf base ops.size (Pl.st p).A (fun x => S x && !bitOf (Pl.μ i) x) Pl.bl b := by
          by_cases hlow : b < base
          · rw [xf_low hlow, xf_low hlow]
          · obtain ⟨x, rfl⟩ : ∃ x, b = base + x := ⟨b - base, by omega⟩
            by_cases e : x = i
            · subst e
              rw [xf_none (bl := Pl.bl) (P := fun x => S x && !bitOf (Pl.μ _) x) (fun h => by have := h.2.1; rw [hS] at this; cases this)]
              unfold xf
              have : base + x - base = x := by omega
              rw [this, h4]
              simp
            · have hor : bitOf (Pl.st (i + 1)).A x = (bitOf (Pl.st p).A x || bitOf (Pl.μ i) x) := by rw [hA, c2, bitOf_or]
              have hsx : S' x = S x := by rw [hS', if_neg e]
              unfold xf
              have hsub : base + x - base = x := by omega
              rw [hsub, hsx, hor]
              show (if base ≤ base + x ∧ x < ops.size ∧ S x = true ∧ (bitOf (Pl.st p).A x || bitOf (Pl.μ i) x) = false then Pl.bl x else none) = if base ≤ base + x ∧ x < ops.size ∧ (S x && !bitOf (Pl.μ i) x) = true ∧ bitOf (Pl.st p).A x = false then Pl.bl x else none
              cases bitOf (Pl.st p).A x <;> cases bitOf (Pl.μ i) x <;> cases S x <;> simp
        rw [this]
      obtain ⟨r1, r2⟩ := frame_spine (G' := Pl.HH S' (i + 1)) I.good.rep hsp rfl rfl hwt2 hx e3 e4 hG' rfl rfl
      refine hk (i + 1) ρ' _ w' (I.step ho hS ha hS' e2 r1 r2 (by omega) ?_ ?_ ?_)
      · intro j hj hs
        rw [hS']
        by_cases e : j = i
        · rw [if_pos e]; constructor
          · intro _; omega
          · intro _; rfl
        · rw [if_neg e, I.pos j hj hs]
          constructor
          · intro h; omega
          · intro h
            exact (I.pos j hj hs).1 (ha j (Pl.chain hi hkd (by omega) hs))
      · intro x hx2 hbx hAx
        rw [hA, c2, bitOf_or, Bool.or_eq_false_iff] at hAx
        have hne : x ≠ i := by intro e; rw [e] at hbx; exact hbx h4
        cases hg : (Pl.st (i + 1)).K.blks.get (base + x) with
        | none => rfl
        | some k' =>
          exfalso
          rcases e4.blk _ k' hg with ⟨k0, g⟩ | ⟨g | g, _⟩
          · rw [lay_get, lies, xf_none (fun h => by rw [hAx.2] at h; cases h.2.1), I.free x hx2 hbx hAx.1] at g
            cases g
          · omega
          · replace g : (Pl.st p).K.next ≤ base + x := g
            have := I.next
            omega
      · intro x hx2 hbx hSx hAx
        rw [hA, c2, bitOf_or, Bool.or_eq_false_iff] at hAx
        have hne : x ≠ i := by intro e; rw [e] at hbx; exact hbx h4
        rw [hS', if_neg hne] at hSx
        cases hbl : Pl.bl x with
        | none => exact absurd hbl hbx
        | some kx =>
          have W : Waits (fun _ => none) (layP base (Pl.st p).K (Pl.st p).A (bitOf (Pl.μ i)) (alOf Pl.bl ops.size)) (base + x) kx := I.waits hx2 hbl hSx hAx.1 hAx.2
          obtain ⟨g1, g2⟩ := e4.famk (base + x) W.lt (by omega) W.nof
          exact ⟨g2, g1.trans W.nofs⟩
    unfold Oper.wp
    rcases hruns with h | ⟨h, hu⟩ | ⟨f, args, h, hcall⟩
    · obtain ⟨ρ', v', w', e1, e2, e3, e4⟩ := op_sound K hRK I.rel hid (o := o) ((I.sel ho hS ha (base + i) _).trans h)
      rw [e1]
      exact fin ρ' v' w' e2 e3 e4
    · obtain ⟨ρ', w', e1, e3, e4⟩ := op_sound K hRK I.rel hid (o := o) ((I.sel ho hS ha (base + i) _).trans h)
      rw [e1]
      exact fin ρ' undef w' (by rw [hu]; exact undef_conc ρ') e3 e4
    · obtain ⟨args', e1, e2⟩ := op_sound K hRK I.rel hid (o := o) ((I.sel ho hS ha (base + i) _).trans h)
      rw [e1]
      have hgood : Good ρ (layP base (Pl.st p).K (Pl.st p).A (bitOf (Pl.μ i)) (alOf Pl.bl ops.size)) B w := by
        refine ⟨hRK, I.good.low, ?_⟩
        intro b k hb
        have : ∃ k', (Pl.HH S p).blks.get b = some k' := by
          rw [hsp, lies]
          cases xf base ops.size (Pl.st p).A (fun x => S x && !bitOf (Pl.μ i) x) Pl.bl b with
          | some k' => exact ⟨k', rfl⟩
          | none => exact ⟨k, hb⟩
        obtain ⟨k', hk'⟩ := this
        exact I.good.lowb b k' hk'
      refine Calls.mono (hc f args _ (Pl.va i) _ hcall ρ args' w e2 hgood I.rel.glob) ?_
      intro en w1 ⟨ρ1, v', g3, g4, g5, g6⟩
      subst g3
      exact fin ρ1 v' w1 g4 g5 (Stp.any g6 (Nat.le_refl _))
omit K hc in
theorem Plan.unlisted_lt {n i : Nat} {listed : Array Bool} (hi : i < n) (hn : listed.size = n) (h : listed.getD i false = false) :
    (List.range n).countP (fun j => !(listed.setIfInBounds i true).getD j false) < (List.range n).countP (fun j => !listed.getD j false) := by
  have key : ∀ (l : List Nat), i ∈ l → l.countP (fun j => !(listed.setIfInBounds i true).getD j false) < l.countP (fun j => !listed.getD j false) := by
    have mono : ∀ (l : List Nat), l.countP (fun j => !(listed.setIfInBounds i true).getD j false) ≤ l.countP (fun j => !listed.getD j false) := by
      intro l
      refine List.countP_mono_left ?_
      intro j _ hj
      rw [Bool.not_eq_true'] at hj ⊢
      by_cases e : i = j
      · subst e
        rw [h]
      · rw [getD_set_ne false e] at hj; exact hj
    intro l
    induction l with
    | nil => intro h; cases h
    | cons x l ih =>
      intro hm
      rw [List.countP_cons, List.countP_cons]
      by_cases e : x = i
      · subst e
        have h1 : (listed.setIfInBounds x true).getD x false = true := by
          simp [Array.getD, hn, hi]
        rw [h1, h]
        have := mono l
        simp only [Bool.not_true, Bool.false_eq_true, if_false, Bool.not_false, if_true]
        omega
      · have hm' : i ∈ l := by
          rcases List.mem_cons.1 hm with h | h
          · exact absurd h.symm e
          · exact h
        rw [getD_set_ne false (Ne.symm e)]
        have := ih hm'
        omega
  exact key _ (List.mem_range.2 hi)
theorem Plan.Inv.all {Q : Exit → Act → World → Prop} (hQ : ∀ p ρ a w S, (∀ j, j < ops.size → S j = true) → Pl.Inv B ρ0 H0 w0 S p ρ a w → Q .normal a w) : ∀ (fuel : Nat) (listed : Array Bool) (p : Nat) (ρ : Env) (a : Act) (w : World), listed.size = ops.size →
    (List.range ops.size).countP (fun j => !listed.getD j false) ≤ fuel → Pl.Inv B ρ0 H0 w0 (fun j => listed.getD j false) p ρ a w → wpAny C.P .any ops Q fuel listed a w := by
  have done : ∀ (listed : Array Bool) (p : Nat) (ρ : Env) (a : Act) (w : World), listed.size = ops.size → Pl.Inv B ρ0 H0 w0 (fun j => listed.getD j false) p ρ a w → Region.ready .any ops listed = [] → Q .normal a w := by
    intro listed p ρ a w hsz I hr
    refine hQ p ρ a w _ ?_ I
    intro j
    induction j using Nat.strongRecOn with
    | _ j ih =>
      intro hj
      cases hl : listed.getD j false with
      | true => rfl
      | false =>
        exfalso
        obtain ⟨o, ho⟩ := Plan.at_ (ops := ops) hj
        have : j ∈ Region.ready .any ops listed := by
          rw [mem_ready]
          refine ⟨?_, o, ho, ?_⟩
          · rw [← hsz] at hj
            simp [Array.getD, hj] at hl ⊢
            exact hl
          · intro e he hb
            have hlt := (Pl.edge j o ho e (by simpa using he) hb).1
            exact ih e.on hlt (by omega)
        rw [hr] at this
        cases this
  intro fuel
  induction fuel with
  | zero =>
    intro listed p ρ a w hsz hcnt I
    have hr : Region.ready .any ops listed = [] := by
      cases hr : Region.ready .any ops listed with
      | nil => rfl
      | cons j rs =>
        exfalso
        have hj : j ∈ Region.ready .any ops listed := by rw [hr]; simp
        obtain ⟨h1, o, ho, _⟩ := mem_ready.1 hj
        have hjs := Plan.lt_size ho
        have h2 : listed.getD j false = false := by
          have hjl : j < listed.size := by rw [hsz]; exact hjs
          simp [Array.getD, hjl] at h1 ⊢
          exact h1
        have := Plan.unlisted_lt hjs hsz h2
        omega
    exact ⟨hr, done listed p ρ a w hsz I hr⟩
  | succ fuel ih =>
    intro listed p ρ a w hsz hcnt I
    refine ⟨done listed p ρ a w hsz I, ?_⟩
    intro i hi
    obtain ⟨h1, o, ho, h2⟩ := mem_ready.1 hi
    have his := Plan.lt_size ho
    have hS : listed.getD i false = false := by
      have hjl : i < listed.size := by rw [hsz]; exact his
      simp [Array.getD, hjl] at h1 ⊢
      exact h1
    have ha : ∀ b, bitOf (Pl.μ i) b = true → listed.getD b false = true := by
      intro b hb
      obtain ⟨e, he, hbe, h⟩ := Pl.anc i o ho b hb
      have hon := h2 e (by simpa using he) hbe
      rcases h with h | h
      · rw [h]; exact hon
      · exact I.down e.on hon b h
    have hS' : ∀ j, (listed.setIfInBounds i true).getD j false = if j = i then true else listed.getD j false := by
      intro j
      by_cases e : j = i
      · subst e
        simp [Array.getD, hsz, his]
      · rw [if_neg e, getD_set_ne false (Ne.symm e)]
    refine I.run K hc ho hS ha hS' ?_
    intro p' ρ' a' w' I'
    have hlt := Plan.unlisted_lt his hsz hS
    exact ih (listed.setIfInBounds i true) p' ρ' a' w' (by simpa using hsz) (by omega) I'
end
theorem Plan.lvs_all {S : Nat → Bool} (h : ∀ j, j < ops.size → S j = true) : ∀ k, k ≤ ops.size → Pl.lvs S k = Pl.lvs (fun _ => true) k
  | 0, _ => rfl
  | k + 1, hk => by rw [Plan.lvs, Plan.lvs, h k (by omega), Plan.lvs_all h k (by omega)]
theorem Plan.lvs_mine (S : Nat → Bool) : ∀ k t, k ≤ ops.size → (Pl.lvs S k).find t none ≠ none → ∃ o ∈ ops.toList, o.dst = some t
  | 0, t, _, h => absurd rfl h
  | k + 1, t, hk, h => by
    obtain ⟨o, ho⟩ := Plan.at_ (ops := ops) (i := k) (by omega)
    have hb : (ops[k]?).bind (·.dst) = o.dst := by rw [ho]; rfl
    rw [Plan.lvs, hb] at h
    cases hS : S k with
    | true =>
      rw [hS] at h
      simp only [] at h
      rw [putL_find] at h
      by_cases hd : o.dst = some t
      · exact ⟨o, by rw [← Array.getElem?_toList] at ho; exact List.mem_of_getElem? ho, hd⟩
      · rw [if_neg hd] at h; exact Plan.lvs_mine S k t (by omega) h
    | false => rw [hS] at h; exact Plan.lvs_mine S k t (by omega) h
theorem layP_none {K : Heap} {A : Nat} {al : List (Nat × Blk)} : layP base K A (fun _ => false) al = K := by
  induction al with
  | nil => rfl
  | cons p al ih => rw [layP_cons, ih]
end
theorem plan_of {C : Ctx} {call : FuncId → List Value → Heap → CRes} {nt : Nat} {ops : Array Oper} {fl : List Nat} {tm : T Value} {base : Nat} {K0 : Heap} {ms : List Nat} {e : Ex} {tm' : T Value} {H' : Heap}
    (hms : masksOf ops.toList ops.toList 0 .nil .nil .nil = some ms) (h : drawS C call nt ops.toList fl tm base ops.size ops.toList 0 ms (.nil C.ng) K0 0 [] [] [] = .mk e tm' H') :
    ∃ Pl : Plan C call nt ops tm base K0, e = .normal ∧ tm' = flush fl (Pl.st ops.size).l tm ∧ H' = layD base (Pl.st ops.size).K (Pl.st ops.size).A (Nat.sub (Nat.shiftLeft 1 ops.size) 1) (Pl.st ops.size).al := by
  obtain ⟨st, kd, va, bl, g1, g2, g3, g4, g5⟩ := trace ops.toList 0 ms ⟨.nil C.ng, K0, 0, [], [], []⟩ h
  have hm : ∀ (i : Nat) (o : Oper), ops[i]? = some o → ∃ m, ms[i]? = some m ∧ MaskOk ops.toList ms i o m := fun i o ho => masks_ok hms i o (by rw [Array.getElem?_toList]; exact ho)
  have hget : ∀ {i m : Nat}, ms[i]? = some m → (ms[i]?).getD 0 = m := by intro i m h; rw [h]; rfl
  refine ⟨⟨st, kd, va, bl, fun i => (ms[i]?).getD 0, g1, ?_, ?_, ?_, ?_, ?_⟩, g3, by simpa using g4, by simpa using g5⟩
  · intro i o ho
    obtain ⟨m, a1, a2, a3⟩ := g2 i o (by rw [Array.getElem?_toList]; exact ho)
    rw [Nat.zero_add] at a3
    rw [hget a1]
    exact ⟨a2, a3⟩
  · intro i o ho b hb
    obtain ⟨m, a1, a2⟩ := hm i o ho
    rw [hget a1] at hb
    obtain ⟨e, he, hbe, h⟩ := a2.anc b hb
    refine ⟨e, he, hbe, ?_⟩
    rcases h with h | ⟨m', h1, h2⟩
    · exact .inl h
    · exact .inr (by rw [hget h1]; exact h2)
  · intro i o ho e he hbe
    obtain ⟨m, a1, a2⟩ := hm i o ho
    obtain ⟨b1, b2, m', b3, b4⟩ := a2.edge e he hbe
    rw [hget a1, hget b3]
    exact ⟨b1, b2, b4⟩
  · intro i o ho t ht j p hj hp hd
    obtain ⟨m, a1, a2⟩ := hm i o ho
    rw [hget a1]
    exact a2.reads t ht j p hj (by rw [Array.getElem?_toList]; exact hp) hd
  · intro i o ho t ht j p hj hp hd
    obtain ⟨m, a1, a2⟩ := hm i o ho
    rw [hget a1]
    exact a2.writes t ht j p hj (by rw [Array.getElem?_toList]; exact hp) hd
theorem draw_sound {C : Ctx} (K : C.Ok) {B : Nat} : DrawOk C B := by
  intro nt u id ops ih hc tm H e tm' H' h ρ a w Q R L hQ
  unfold sDraw at h
  obtain ⟨ms, h1, h2⟩ := or0_eq h
  rw [natF_eq] at h2
  have hlen : ops.toList.length = ops.size := by simp
  rw [hlen] at h2
  obtain ⟨Pl, rfl, rfl, rfl⟩ := plan_of h1 h2
  refine wp_region_any K.mixed ?_
  have hK0 : (Pl.st 0).K = ⟨H.blks, H.fams, H.next + ops.size⟩ := by rw [Pl.first]; rfl
  have hA0 : (Pl.st 0).A = 0 := by rw [Pl.first]
  have hHH : Pl.HH (fun _ => false) 0 = ⟨H.blks, H.fams, H.next + ops.size⟩ := by
    unfold Plan.HH
    rw [layP_none, hK0]
  have hlist : ∀ j, (Array.replicate ops.size false).getD j false = false := by
    intro j
    simp [Array.getD]
  have hRep : ∀ {G : Heap} {w' : World}, G.blks = H.blks → G.fams = H.fams → w'.heap = w.heap → Rep ρ G B w' := by
    intro G w' e1 e2 e3
    have R := R.rep
    have hmem : ∀ f, G.members f = H.members f := by intro f; simp only [Heap.members, e2]
    have hat : ∀ {l k}, BlkAt ρ w l k → BlkAt ρ w' l k := fun h => h.move (Env.le_refl ρ) (by rw [e3])
    exact ⟨fun b k hb lv => let ⟨l, x, y⟩ := R.dom b k (e1 ▸ hb) lv; ⟨l, x, hat y⟩, fun b l h => e3 ▸ R.inb b l h, fun b k l hb => R.own b k l (e1 ▸ hb), fun b1 b2 k1 k2 l1 l2 hne g1 g2 => R.apart b1 b2 k1 k2 l1 l2 hne (e1 ▸ g1) (e1 ▸ g2),
      fun b vals n esz fam pos frz hb => by rw [hmem]; exact R.mem b vals n esz fam pos frz (e1 ▸ hb), fun f l hf => R.famn f l (e2 ▸ hf), fun b vals n esz fam pos frz ro hb => R.famd b vals n esz fam pos frz ro (e1 ▸ hb), e3 ▸ R.base, fun b vals n esz pos frz ro l hb => R.root b vals n esz pos frz ro l (e1 ▸ hb)⟩
  have hStd : ∀ {G : Heap} {w' : World}, G.blks = H.blks → G.fams = H.fams → H.next ≤ G.next → w'.heap = w.heap → w'.os = w.os → w'.tape = w.tape → w'.output = w.output → Std ρ H w ρ G w' := by
    intro G w' e1 e2 e3 e4 e5 e6 e7
    exact ⟨Env.le_refl ρ, (fun b l x y => by rw [x] at y; cases y), e3, e5, e6, e7, by rw [e4]; exact Nat.le_refl _, (fun c _ _ => by rw [e4]), (fun b k l g1 g2 g3 g4 _ => ⟨b, k, l, e1 ▸ g1, g2, g3, g4, rfl⟩),
      (fun f _ _ hno => ⟨by rw [e2], fun b vals n esz pos frz hb => hno b vals n esz pos frz (e1 ▸ hb)⟩), (fun b k hb => .inl ⟨k, e1 ▸ hb⟩)⟩
  have hfun : (fun j => (Array.replicate ops.size false).getD j false) = fun _ => false := funext hlist
  refine Plan.Inv.all (Pl := Pl) (B := B) (ρ0 := ρ) (H0 := H) (w0 := w) K hc (Q := Q) ?_ ops.size (Array.replicate ops.size false) 0 ρ a _ (by simp) ?_ ?_
  ·
    intro p ρ' a' w' S hS I
    refine hQ a' w' ⟨ρ', ?_, ?_, ?_⟩
    · have hheap : layD H.next (Pl.st ops.size).K (Pl.st ops.size).A (Nat.sub (Nat.shiftLeft 1 ops.size) 1) (Pl.st ops.size).al = Pl.HH S p := by
        obtain ⟨c1, c2⟩ := Pl.const I.ple (Nat.le_refl _) (fun j hj1 hj2 hs => by have := (I.pos j hj2 hs).1 (hS j hj2); omega)
        rw [c1, c2, Pl.st_al (Nat.le_refl _), layD_eq]
        exact layP_congr fun x hx _ => by rw [bitOf_ones, hS x hx]; simpa using hx
      rw [hheap]
      exact I.good
    · have hl : (Pl.st ops.size).l = Pl.lvs S ops.size := by rw [Pl.st_l (Nat.le_refl _), Plan.lvs_all hS _ (Nat.le_refl _)]
      rw [hl]
      exact LvOk.flush ⟨I.rel, I.size, I.defers, fun t ht => Plan.lvs_mine S _ t (Nat.le_refl _) ht⟩ L.used
    · have hheap : layD H.next (Pl.st ops.size).K (Pl.st ops.size).A (Nat.sub (Nat.shiftLeft 1 ops.size) 1) (Pl.st ops.size).al = Pl.HH S p := by
        obtain ⟨c1, c2⟩ := Pl.const I.ple (Nat.le_refl _) (fun j hj1 hj2 hs => by have := (I.pos j hj2 hs).1 (hS j hj2); omega)
        rw [c1, c2, Pl.st_al (Nat.le_refl _), layD_eq]
        exact layP_congr fun x hx _ => by rw [bitOf_ones, hS x hx]; simpa using hx
      rw [hheap]
      exact I.std
  · calc (List.range ops.size).countP _ ≤ (List.range ops.size).length := List.countP_le_length
      _ = ops.size := by simp
  · rw [hfun]
    refine ⟨fun j h => (Bool.false_ne_true h).elim, fun j h => (Bool.false_ne_true h).elim, Nat.zero_le _, ?_, ?_, ?_, L.size, L.defers, ?_, ?_, ?_, ?_, ?_, Nat.le_refl _⟩
    · intro j _ _
      constructor
      · intro h; cases h
      · intro h; omega
    · rw [hHH]
      refine ⟨hRep rfl rfl rfl, ?_, ?_⟩
      · intro b l h
        exact Nat.lt_of_lt_of_le (R.low b l h) (Nat.le_add_right _ _)
      · intro b k h
        exact Nat.lt_of_lt_of_le (R.lowb b k h) (Nat.le_add_right _ _)
    · have : ∀ k, Pl.lvs (fun _ => false) k = .nil C.ng := by
        intro k
        induction k with
        | zero => rfl
        | succ k ih => rw [Plan.lvs]; exact ih
      rw [this]
      exact L.rel
    · intro i hi _
      cases hx : ρ (H.next + i) with
      | none => rfl
      | some l => have := R.low _ l hx; omega
    · rw [hHH]
      exact hStd rfl rfl (Nat.le_add_right _ _) rfl rfl rfl rfl
    · intro x hx _ _
      rw [hK0]
      cases hg : H.blks.get (H.next + x) with
      | none => rfl
      | some k => have := R.lowb _ k hg; omega
    · intro x _ _ h
      cases h
    · rw [hK0]
      exact Nat.le_refl _
theorem call_ok {C : Ctx} (K : C.Ok) (B n : Nat) : CallOk C B (callG C n) := callG_sound K (draw_sound K) n
end Go.Ax

namespace Go.Ax
theorem tyTab_get (P : Program) : ∀ (is : List TypeInfo) (n : Nat) (t : T TI) (k : Nat), (tyTab P is n t).get k = if n ≤ k ∧ k < n + is.length then (match is[k - n]? with | some i => tiOf P k i | none => none) else t.get k
  | [], n, t, k => by
    rw [if_neg (by simp)]; rfl
  | i :: is, n, t, k => by
    rw [tyTab, tyTab_get P is]
    by_cases h : k = n
    · subst h
      rw [if_neg (by omega), if_pos (by simp), T.get_set_same]
      simp
    · by_cases h2 : Nat.succ n ≤ k ∧ k < Nat.succ n + is.length
      · rw [if_pos h2, if_pos (by simp; omega)]
        have : k - n = (k - Nat.succ n) + 1 := by omega
        rw [this, List.getElem?_cons_succ]
      · rw [if_neg h2, if_neg (by simp; omega), T.get_set_ne _ _ h]
theorem fnTab_get : ∀ (fs : List Func) (n : Nat) (t : T IFn) (k : Nat) (g : IFn), (fnTab fs n t).get k = some g → (∃ f c, n ≤ k ∧ fs[k - n]? = some f ∧ f.body = some c ∧ g = ifn f c) ∨ t.get k = some g
  | [], n, t, k, g, h => .inr h
  | f :: fs, n, t, k, g, h => by
    have shift : (∃ f' c, Nat.succ n ≤ k ∧ fs[k - Nat.succ n]? = some f' ∧ f'.body = some c ∧ g = ifn f' c) → (∃ f' c, n ≤ k ∧ (f :: fs)[k - n]? = some f' ∧ f'.body = some c ∧ g = ifn f' c) := by
      rintro ⟨f', c, h1, h2, h3, h4⟩
      refine ⟨f', c, by omega, ?_, h3, h4⟩
      have : k - n = (k - Nat.succ n) + 1 := by omega
      rw [this, List.getElem?_cons_succ]
      exact h2
    rw [fnTab] at h
    cases hb : f.body with
    | none =>
      rw [hb] at h
      rcases fnTab_get fs (Nat.succ n) t k g h with h | h
      · exact .inl (shift h)
      · exact .inr h
    | some c =>
      rw [hb] at h
      rcases fnTab_get fs (Nat.succ n) _ k g h with h | h
      · exact .inl (shift h)
      · by_cases hk : k = n
        · subst hk
          rw [T.get_set_same] at h
          cases h
          exact .inl ⟨f, c, Nat.le_refl _, by simp, hb, rfl⟩
        · rw [T.get_set_ne _ _ hk] at h
          exact .inr h
theorem info_at {P : Program} {t : TypeId} {i : TypeInfo} (h : P.types[t]? = some i) : P.info? t = some i := by
  have hlt : t < P.types.size := (Array.getElem?_eq_some_iff.1 h).1
  show (if t < P.types.size then P.types[t]? else Made.infoAt P.toTables Made.depth t) = some i
  rw [if_pos hlt]
  exact h
theorem tiOf_ok {P : Program} {t : TypeId} {info : TypeInfo} (hi : P.info? t = some info) {i : TI} (h : tiOf P t info = some i) : P.underlying t = some i.d ∧ i.agg = isAggD i.d ∧ i.size = info.size ∧ i.bytes = info.bytes ∧ i.methods = info.methods.toList ∧
    (∀ z, i.zero = some z → plainL z = true ∧ ∃ v, info.zero = some v ∧ cellsL v = z) ∧ (i.eqok = true → P.stoodInHeld t = false ∧ P.eqGuardType P.depth t = false) ∧ (∀ v, i.zval = some v → info.zero = some v ∧ plain v = true) := by
  unfold tiOf at h
  split at h
  · cases h
  · rename_i d hd
    cases h
    refine ⟨?_, rfl, rfl, rfl, rfl, ?_, ?_, ?_⟩
    · unfold Program.underlying
      rw [hi]
      obtain ⟨desc⟩ := info
      cases desc <;> first | (simp only [] at hd ⊢; cases hd; rfl) | skip
      all_goals (simp only [] at hd ⊢)
      split at hd
      · rename_i j hj
        rw [info_at hj]
        exact hd
      · cases hd
    · intro z hz
      simp only [] at hz
      cases hzz : info.zero with
      | none => rw [hzz] at hz; cases hz
      | some zv =>
        rw [hzz] at hz
        simp only [] at hz
        split at hz
        · cases hz; exact ⟨by assumption, zv, rfl, rfl⟩
        · cases hz
    · intro he
      simpa using he
    · intro v hv
      simp only [] at hv
      cases hzz : info.zero with
      | none => rw [hzz] at hv; cases hv
      | some zv =>
        rw [hzz] at hv
        obtain ⟨rfl, hp⟩ := constE_eq hv
        exact ⟨rfl, hp⟩
def plainNames (P : Program) : Bool := P.funcs.all fun f => f.body.isNone || !(f.name == "runtime.NumGoroutine")
theorem ctxOf_ok {P : Program} {ext : T Xt} (hm : P.follows .mixedOrders = true) (hn : plainNames P = true)
    (hext : ∀ f k, ext.get f = some k → XtOk P f k) : (ctxOf P ext).Ok where
  tys := fun t i h => by
    replace h : (tyTab P P.types.toList 0 .nil).get t = some i := h
    rw [tyTab_get] at h
    split at h
    · split at h
      · rename_i info hinfo
        have hi : P.info? t = some info := by
          rw [Nat.sub_zero, Array.getElem?_toList] at hinfo
          exact info_at hinfo
        exact ⟨info, hi, tiOf_ok hi h⟩
      · cases h
    · cases h
  fns := fun f g args w h => by
    rcases fnTab_get P.funcs.toList 0 .nil f g h with ⟨fn, c, _, h2, h3, h4⟩ | h
    · rw [Nat.sub_zero, Array.getElem?_toList] at h2
      have hname : (fn.name == "runtime.NumGoroutine") = false := by
        have := Array.all_eq_true_iff_forall_mem.1 hn fn (Array.mem_of_getElem? h2)
        simpa [h3] using this
      have h2' : (ctxOf P ext).P.funcs[f]? = some fn := h2
      unfold callFunc
      simp only [program, Sem.run_bind, Sem.run, Result.andThen_ok, h2', hname, h3, Option.isNone_some, Bool.false_eq_true, if_false]
      rfl
    · cases h
  ext := hext
  body := fun f g h => by
    rcases fnTab_get P.funcs.toList 0 .nil f g h with ⟨fn, c, _, h2, h3, h4⟩ | h
    · rw [Nat.sub_zero, Array.getElem?_toList] at h2
      exact ⟨fn, c, h2, h3, h4⟩
    · cases h
  mixed := hm
end Go.Ax

namespace Go.Ax
noncomputable def ixL : List UInt8 → Nat → Nat → Int
  | [], _, _ => -1
  | b :: l, c, i => match Nat.beq b.toNat c with
    | true => .ofNat i
    | false => ixL l c (Nat.succ i)
noncomputable def ixE : List Value → Option Value
  | [.string ⟨⟨s⟩⟩, .int .u8 (.ofNat c)] => og (Nat.ble c 255) (some (.int .i64 (ixL s c 0)))
  | _ => none
theorem ixL_eq (c : Nat) (hc : c ≤ 255) : ∀ (s : List UInt8) (i : Nat), ixL s c i = if Lib.indexByte s (UInt8.ofNat c) = -1 then -1 else Lib.indexByte s (UInt8.ofNat c) + i
  | [], i => by simp [ixL, Lib.indexByte]
  | b :: l, i => by
    have h := ixL_eq c hc l (Nat.succ i)
    have hge := Lib.indexByte_ge l (UInt8.ofNat c)
    rw [ixL, Lib.indexByte]
    cases hb : Nat.beq b.toNat c with
    | true =>
      have e := Nat.eq_of_beq_eq_true hb
      have : (b == UInt8.ofNat c) = true := by
        rw [beq_iff_eq, ← e]; simp
      rw [this]
      simp
    | false =>
      have e := Nat.ne_of_beq_eq_false hb
      have : (b == UInt8.ofNat c) = false := by
        rw [beq_eq_false_iff_ne]
        intro h
        apply e
        rw [h]
        simp
        omega
      rw [this]
      simp only [h, Bool.false_eq_true, if_false]
      by_cases hm : Lib.indexByte l (UInt8.ofNat c) = -1
      · simp [hm]
      · rw [if_neg hm]
        have : (Lib.indexByte l (UInt8.ofNat c) == -1) = false := by rw [beq_eq_false_iff_ne]; exact hm
        rw [this]
        simp only [Bool.false_eq_true, if_false]
        rw [if_neg (by omega)]
        omega
section
variable {P : Program} {f : FuncId} {fn : Func}
theorem xt_same (hf : P.funcs[f]? = some fn) (hname : (fn.name == "runtime.NumGoroutine") = false) (hb : fn.body.isNone = true) (hn : Extern.findNext fn = none) (he : Extern.find fn = some Extern.AbiNoEscape.same) : XtOk P f .same := by
  intro x w
  rw [run_callFunc_extern hf hname hb hn he]
  rfl
theorem xt_clone (hf : P.funcs[f]? = some fn) (hname : (fn.name == "runtime.NumGoroutine") = false) (hb : fn.body.isNone = true) (hn : Extern.findNext fn = none) (he : Extern.find fn = some Extern.MapsClone.clone) : XtOk P f .clone := by
  intro args w
  rw [run_callFunc_extern hf hname hb hn he, Sem.run_bind]
  rfl
theorem xt_ix (hf : P.funcs[f]? = some fn) (hname : (fn.name == "runtime.NumGoroutine") = false) (hb : fn.body.isNone = true) (hn : Extern.findNext fn = none) (he : Extern.find fn = some Extern.BytealgIndexByte.indexByte) : XtOk P f (.fn ixE) := by
  intro args v _ h w
  rw [run_callFunc_extern hf hname hb hn he]
  unfold ixE at h
  split at h
  · rename_i s c _
    obtain ⟨h1, h⟩ := og_eq_some h
    cases h
    have h1 : c ≤ 255 := Nat.le_of_ble_eq_true h1
    have := Lib.run_indexByteString (P := P) ⟨⟨s⟩⟩ (c : Int) w
    have h2 := ixL_eq c h1 s 0
    have h3 := Lib.indexByte_ge s (UInt8.ofNat c)
    have h4 : ixL s c 0 = Lib.indexByte s (UInt8.ofNat c) := by
      rw [h2]; split <;> omega
    rw [h4]
    have h5 : ((c : Int).toNat.toUInt8 : UInt8) = UInt8.ofNat c := rfl
    rw [h5] at this
    have this : (Extern.BytealgIndexByte.indexByte ⟨[Value.string ⟨⟨s⟩⟩, Value.int .u8 (Int.ofNat c)]⟩).run P w = .ok (.int .i64 (Lib.indexByte s (UInt8.ofNat c))) w := this
    rw [this]
    rfl
  · cases h
end
noncomputable def xtTab (t : T Xt) (k : Xt) : List FuncId → T Xt
  | [] => t
  | f :: fs => xtTab (t.set f (some k)) k fs
def Ctx.noVars (C : Ctx) : Ctx := ⟨C.P, 0, C.tys, C.fns, C.ext⟩
theorem Ctx.Ok.noVars {C : Ctx} (K : C.Ok) : C.noVars.Ok := ⟨K.tys, K.fns, K.ext, K.body, K.mixed⟩
noncomputable def okTrue : CRes → Bool
  | .ok (.bool true) _ => true
  | _ => false
theorem okTrue_eq {r : CRes} (h : okTrue r = true) : ∃ H, r = .ok (.bool true) H := by
  unfold okTrue at h
  split at h
  · exact ⟨_, rfl⟩
  · cases h
noncomputable def noHeap : Heap := ⟨.nil, .nil, 0⟩
theorem good_none (w : World) : Good (fun _ => none) noHeap w.heap.size w where
  rep := {
    dom := fun b k h => by cases b <;> cases h
    inb := fun _ _ h => by cases h
    own := fun b k l h => by cases b <;> cases h
    apart := fun b1 _ _ _ _ _ _ h => by cases b1 <;> cases h
    mem := fun b _ _ _ _ _ _ h => by cases b <;> cases h
    famn := fun b _ h => by cases b <;> cases h
    famd := fun b _ _ _ _ _ _ _ h => by cases b <;> cases h
    base := Nat.le_refl _
    root := fun b _ _ _ _ _ _ _ h => by cases b <;> cases h }
  low := fun _ _ h => by cases h
  lowb := fun b k h => by cases b <;> cases h
theorem closed_call {C : Ctx} (K : C.Ok) (hng : C.ng = 0) {f : FuncId} {n : Nat} (h : okTrue (callG C n f [] noHeap) = true) (w : World) :
    Calls C.P f #[] w fun e w' => e = .returned (.bool true) ∧ RowKit.Below w.heap.size w w' := by
  obtain ⟨H', h⟩ := okTrue_eq h
  refine (call_ok K w.heap.size n f [] noHeap _ H' h (fun _ => none) [] w rfl (good_none w) (fun g hg => by rw [hng] at hg; cases hg)).mono ?_
  rintro e w' ⟨ρ', v', h1, h2, _, h3⟩
  simp [conc] at h2
  subst h2
  refine ⟨h1, h3.os, h3.tape, h3.output, h3.size, fun k hk => h3.keep k hk ?_⟩
  intro b kk l _ _ _ e
  cases e
def CallTrue (P : Program) (X : T Xt) (n : Nat) (f : FuncId) : Prop := okTrue (callG (ctxOf P X).noVars n f [] noHeap) = true
theorem closed_prog {P : Program} {X : T Xt} (hm : P.follows .mixedOrders = true) (hn : plainNames P = true) (hext : ∀ f k, X.get f = some k → XtOk P f k) {f : FuncId} {n : Nat}
    (h : CallTrue P X n f) (w : World) : Calls P f #[] w fun e w' => e = .returned (.bool true) ∧ RowKit.Below w.heap.size w w' :=
  closed_call (ctxOf_ok hm hn hext).noVars rfl h w
end Go.Ax
