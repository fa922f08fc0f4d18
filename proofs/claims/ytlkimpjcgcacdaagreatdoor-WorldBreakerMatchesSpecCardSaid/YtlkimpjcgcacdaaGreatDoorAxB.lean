/- An evaluator of the model's code over a virtual heap, and that it is sound (part 2 of 3). -/
import Derived.Test.YtlkimpjcgcacdaaGreatDoorAxA
import Derived.Lib.ConvBytes
import Derived.Laws.BytesArg
import Derived.Tactics
import Derived.Scope
namespace Go.Ax
def openCap (o : Bool) (c e : Nat) : Nat := match o with
  | false => c
  | true => c + e
def SVAt (ρ : Env) (x' : Value) : SV → Prop
  | .nil => x' = .slice none 0 0
  | .mk b off o len cap => ∃ lo, ρ b = some lo ∧ x' = .slice (some ⟨lo.blk, lo.sh + off, none⟩) len (openCap o cap lo.ext)
theorem conc_pointer_shape {ρ : Env} {y : Option Addr} {b' : Value} (h : conc ρ (.pointer y) = some b') : ∃ y', b' = .pointer y' ∧ y'.isNone = y.isNone := by
  cases y with
  | none => simp [conc] at h; exact ⟨none, h.symm, rfl⟩
  | some a =>
    simp only [conc] at h
    split at h <;> cases h
    exact ⟨_, rfl, rfl⟩
theorem conc_slice_shape {ρ : Env} {y : Option Addr} {n c : Nat} {b' : Value} (h : conc ρ (.slice y n c) = some b') : ∃ y' c', b' = .slice y' n c' ∧ y'.isNone = y.isNone := by
  cases y with
  | none => simp [conc] at h; exact ⟨none, c, h.symm, rfl⟩
  | some a =>
    simp only [conc, concSlice] at h
    split at h <;> cases h
    exact ⟨_, _, rfl, rfl⟩
theorem conc_map_shape {ρ : Env} {y : Option Nat} {b' : Value} (h : conc ρ (.map y) = some b') : ∃ y', b' = .map y' ∧ y'.isNone = y.isNone := by
  cases y with
  | none => simp [conc] at h; exact ⟨none, h.symm, rfl⟩
  | some a =>
    simp only [conc] at h
    split at h <;> cases h
    exact ⟨_, rfl, rfl⟩
theorem conc_func_shape {ρ : Env} {fn : Fn} {x y : Array Value} {b' : Value} (h : conc ρ (.func fn x y) = some b') : ∃ x' y', b' = .func fn x' y' := by
  cases h1 : concA ρ x <;> cases h2 : concA ρ y <;> cases fn <;> simp [conc, h1, h2] at h <;> exact ⟨_, _, h.symm⟩
theorem conc_iface_shape {ρ : Env} {t : TypeId} {x b' : Value} (h : conc ρ (.iface t x) = some b') : ∃ x', b' = .iface t x' := by
  simp only [conc] at h
  split at h <;> cases h
  exact ⟨_, rfl⟩
section
variable {P : Program} (w : World) (n : Nat) (t : TypeId)
theorem eqIn_pn (e : TypeId) (hu : P.underlying t = some (.pointer e)) (y : Option Addr) : (Op.equalIn (n + 1) t (.pointer none) (.pointer y)).run P w = .ok y.isNone w := by simp [Op.equalIn, run_underlying hu]
theorem eqIn_np (e : TypeId) (hu : P.underlying t = some (.pointer e)) (y : Addr) : (Op.equalIn (n + 1) t (.pointer (some y)) (.pointer none)).run P w = .ok false w := by simp [Op.equalIn, run_underlying hu]
theorem eqIn_sn (e : TypeId) (hu : P.underlying t = some (.slice e)) (a b c d : Nat) (y : Option Addr) : (Op.equalIn (n + 1) t (.slice none a b) (.slice y c d)).run P w = .ok y.isNone w := by simp [Op.equalIn, run_underlying hu]
theorem eqIn_ns (e : TypeId) (hu : P.underlying t = some (.slice e)) (a b c d : Nat) (y : Addr) : (Op.equalIn (n + 1) t (.slice (some y) a b) (.slice none c d)).run P w = .ok false w := by simp [Op.equalIn, run_underlying hu]
theorem eqIn_mn (k e : TypeId) (hu : P.underlying t = some (.map k e)) (y : Option Nat) : (Op.equalIn (n + 1) t (.map none) (.map y)).run P w = .ok y.isNone w := by simp [Op.equalIn, run_underlying hu]
theorem eqIn_nm (k e : TypeId) (hu : P.underlying t = some (.map k e)) (y : Nat) : (Op.equalIn (n + 1) t (.map (some y)) (.map none)).run P w = .ok false w := by simp [Op.equalIn, run_underlying hu]
theorem eqIn_ff (ps rs : Array TypeId) (v : Bool) (hu : P.underlying t = some (.func ps rs v)) : (Op.equalIn (n + 1) t .nilFunc .nilFunc).run P w = .ok true w := by simp [Op.equalIn, run_underlying hu]
theorem eqIn_fg (ps rs : Array TypeId) (v : Bool) (hu : P.underlying t = some (.func ps rs v)) (f : Fn) (x y : Array Value) : (Op.equalIn (n + 1) t .nilFunc (.func f x y)).run P w = .ok false w := by simp [Op.equalIn, run_underlying hu]
theorem eqIn_gf (ps rs : Array TypeId) (v : Bool) (hu : P.underlying t = some (.func ps rs v)) (f : Fn) (x y : Array Value) : (Op.equalIn (n + 1) t (.func f x y) .nilFunc).run P w = .ok false w := by simp [Op.equalIn, run_underlying hu]
theorem eqIn_ni (ms : Array (String × TypeId)) (hu : P.underlying t = some (.interface ms)) (u : TypeId) (x : Value) : (Op.equalIn (n + 1) t .nilIface (.iface u x)).run P w = .ok false w := by simp [Op.equalIn, run_underlying hu]
theorem eqIn_in (ms : Array (String × TypeId)) (hu : P.underlying t = some (.interface ms)) (u : TypeId) (x : Value) : (Op.equalIn (n + 1) t (.iface u x) .nilIface).run P w = .ok false w := by simp [Op.equalIn, run_underlying hu]
end
section
variable {C : Ctx} (K : C.Ok) {ρ : Env} {H : Heap} {B : Nat} {w : World} {l : LV} {tm : T Value} {a : Act} {id : Nat}
include K
omit K in
theorem eqIn_pp {P : Program} (w : World) (n : Nat) (t e : TypeId) {sz : Nat} (hu : P.underlying t = some (.pointer e)) (hs : (sizeOf e).run P w = .ok sz w) (hz : sz ≠ 0) (b o o' : Nat) :
    (Op.equalIn (n + 1) t (.pointer (some ⟨b, o, none⟩)) (.pointer (some ⟨b, o', none⟩))).run P w = .ok (Nat.beq o o') w := by
  unfold Op.equalIn
  simp only [Sem.run_bind, run_underlying hu w, Result.andThen_ok, hs]
  rw [if_pos hz]
  have hd : ((⟨b, o, none⟩ : Addr) == ⟨b, o', none⟩) = Nat.beq o o' := by
    rw [Bool.eq_iff_iff, beq_iff_eq, Nat.beq_eq]
    constructor
    · intro h; cases h; rfl
    · intro h; rw [h]
  simp only [sameAddr, beq_self_eq_true, if_true, hd]
  rfl
theorem eqE_run {t : TypeId} {x y x' y' : Value} {r : Bool} (h : eqE C t x y = some r) (hx : conc ρ x = some x') (hy : conc ρ y = some y') (w : World) :
    (Op.equal t x' y').run C.P w = .ok r w ∧ ∀ op p q, (eqGuard op t p q x' y').run C.P w = .ok () w := by
  suffices hn : ∀ n, (Op.equalIn (n + 2) t x' y').run C.P w = .ok r w ∧ ∀ op p q, (eqGuard op t p q x' y').run C.P w = .ok () w from ⟨(hn 9998).1, (hn 9998).2⟩
  intro n
  unfold eqE at h
  split at h
  · cases h
  · rename_i d hd
    have hu := K.und hd
    split at h
    · rename_i p q
      cases h
      simp [conc] at hx hy
      subst hx; subst hy
      refine ⟨?_, fun op p q => by cases op <;> rfl⟩
      rw [run_equalIn_bool w (n + 1) t p q hu]
      cases p <;> cases q <;> rfl
    · cases h
      simp [conc] at hx
      subst hx
      obtain ⟨y2, rfl, hn⟩ := conc_pointer_shape hy
      exact ⟨(by rw [← hn]; exact eqIn_pn w (n + 1) t _ hu _), fun op p q => by cases op <;> rfl⟩
    · cases h
      simp [conc] at hy
      subst hy
      obtain ⟨x2, rfl, hn⟩ := conc_pointer_shape hx
      cases x2 with
      | none => simp at hn
      | some x2 => exact ⟨(eqIn_np w (n + 1) t _ hu _), fun op p q => by cases op <;> rfl⟩
    · obtain ⟨j, h1, h2⟩ := ob_eq_some h
      obtain ⟨h3, h4⟩ := og_eq_some h2
      obtain ⟨h5, h6⟩ := og_eq_some h4
      cases h6
      have := Nat.eq_of_beq_eq_true h3
      subst this
      obtain ⟨lx, g1, rfl⟩ := conc_ptr hx
      obtain ⟨ly, g2, rfl⟩ := conc_ptr hy
      rw [g1] at g2
      cases g2
      have hz : j.size ≠ 0 := by have := Nat.le_of_ble_eq_true h5; omega
      refine ⟨?_, fun op p q => by cases op <;> rfl⟩
      rw [eqIn_pp w (n + 1) t _ hu (K.run_size h1 w) hz]
      congr 1
      rw [Bool.eq_iff_iff, Nat.beq_eq, Nat.beq_eq]
      omega
    · cases h
      simp [conc] at hx
      subst hx
      obtain ⟨y2, c2, rfl, hn⟩ := conc_slice_shape hy
      exact ⟨(by rw [← hn]; exact eqIn_sn w (n + 1) t _ hu _ _ _ _ _), fun op p q => by cases op <;> rfl⟩
    · cases h
      simp [conc] at hy
      subst hy
      obtain ⟨x2, c2, rfl, hn⟩ := conc_slice_shape hx
      cases x2 with
      | none => simp at hn
      | some x2 => exact ⟨(eqIn_ns w (n + 1) t _ hu _ _ _ _ _), fun op p q => by cases op <;> rfl⟩
    · cases h
      simp [conc] at hx
      subst hx
      obtain ⟨y2, rfl, hn⟩ := conc_map_shape hy
      exact ⟨(by rw [← hn]; exact eqIn_mn w (n + 1) t _ _ hu _), fun op p q => by cases op <;> rfl⟩
    · cases h
      simp [conc] at hy
      subst hy
      obtain ⟨x2, rfl, hn⟩ := conc_map_shape hx
      cases x2 with
      | none => simp at hn
      | some x2 => exact ⟨(eqIn_nm w (n + 1) t _ _ hu _), fun op p q => by cases op <;> rfl⟩
    · cases h
      simp [conc] at hx hy
      subst hx; subst hy
      exact ⟨(eqIn_ff w (n + 1) t _ _ _ hu), fun op p q => by cases op <;> rfl⟩
    · cases h
      simp [conc] at hx
      subst hx
      obtain ⟨_, _, rfl⟩ := conc_func_shape hy
      exact ⟨(eqIn_fg w (n + 1) t _ _ _ hu _ _ _), fun op p q => by cases op <;> rfl⟩
    · cases h
      simp [conc] at hy
      subst hy
      obtain ⟨_, _, rfl⟩ := conc_func_shape hx
      exact ⟨(eqIn_gf w (n + 1) t _ _ _ hu _ _ _), fun op p q => by cases op <;> rfl⟩
    · cases h
      simp [conc] at hx
      subst hx
      obtain ⟨_, rfl⟩ := conc_iface_shape hy
      exact ⟨(eqIn_ni w (n + 1) t _ hu _ _), fun op p q => by cases op <;> rfl⟩
    · cases h
      simp [conc] at hy
      subst hy
      obtain ⟨_, rfl⟩ := conc_iface_shape hx
      exact ⟨(eqIn_in w (n + 1) t _ hu _ _), fun op p q => by cases op <;> rfl⟩
    · obtain ⟨xs', e1, rfl⟩ := conc_agg hx
      obtain ⟨ys', e2, rfl⟩ := conc_agg hy
      obtain ⟨g1, g2⟩ := eqAgg_run K h e1 e2 n w
      exact ⟨g1, fun op p q => run_eqGuard_agg w op t p q _ _ g2⟩
    · obtain ⟨xs', e1, rfl⟩ := conc_agg hx
      obtain ⟨ys', e2, rfl⟩ := conc_agg hy
      obtain ⟨g1, g2⟩ := eqAgg_run K h e1 e2 n w
      exact ⟨g1, fun op p q => run_eqGuard_agg w op t p q _ _ g2⟩
    · cases h
theorem eqBin_run {op : BinOp} {t : TypeId} {x y x' y' : Value} {r : Bool} (hx : conc ρ x = some x') (hy : conc ρ y = some y') (h : eqE C t x y = some r)
    (hn : ∀ k n, x ≠ .int k n) (hs : ∀ s, x ≠ .string s) (hf : ∀ k n, x ≠ .float k n) (hc : ∀ k n m, x ≠ .complex k n m) (p q : Operand) (w : World) :
    (op = .eql → (do eqGuard op t p q x' y'; binOp op t x' y' : Sem Value).run C.P w = .ok (.bool r) w) ∧
    (op = .neq → (do eqGuard op t p q x' y'; binOp op t x' y' : Sem Value).run C.P w = .ok (.bool (!r)) w) := by
  obtain ⟨g1, g2⟩ := eqE_run K h hx hy w
  have hb : binOp .eql t x' y' = (do pure (.bool (← Op.equal t x' y')) : Sem Value) ∧ binOp .neq t x' y' = (do pure (.bool (!(← Op.equal t x' y'))) : Sem Value) := by
    cases x with
    | int k n => exact absurd rfl (hn k n)
    | string s => exact absurd rfl (hs s)
    | float k n => exact absurd rfl (hf k n)
    | complex k n m => exact absurd rfl (hc k n m)
    | bool b => simp [conc] at hx; subst hx; exact ⟨rfl, rfl⟩
    | pointer y => obtain ⟨_, rfl, _⟩ := conc_pointer_shape hx; exact ⟨rfl, rfl⟩
    | slice y _ _ => obtain ⟨_, _, rfl, _⟩ := conc_slice_shape hx; exact ⟨rfl, rfl⟩
    | map y => obtain ⟨_, rfl, _⟩ := conc_map_shape hx; exact ⟨rfl, rfl⟩
    | chan y =>
      cases y with
      | none => simp [conc] at hx; subst hx; exact ⟨rfl, rfl⟩
      | some y => simp [conc] at hx
    | func fn u v => obtain ⟨_, _, rfl⟩ := conc_func_shape hx; exact ⟨rfl, rfl⟩
    | nilFunc => simp [conc] at hx; subst hx; exact ⟨rfl, rfl⟩
    | iface t v => obtain ⟨_, rfl⟩ := conc_iface_shape hx; exact ⟨rfl, rfl⟩
    | nilIface => simp [conc] at hx; subst hx; exact ⟨rfl, rfl⟩
    | agg cs => cases cs; obtain ⟨_, _, rfl⟩ := conc_agg hx; exact ⟨rfl, rfl⟩
    | tuple cs => cases cs; obtain ⟨_, _, rfl⟩ := conc_tuple hx; exact ⟨rfl, rfl⟩
  constructor
  · intro e
    subst e
    rw [hb.1]
    simp [g2, g1]
  · intro e
    subst e
    rw [hb.2]
    simp [g2, g1]
theorem binE_run {op : BinOp} {t : TypeId} {x y x' y' v : Value} (h : binE C op t x y = some v) (hx : conc ρ x = some x') (hy : conc ρ y = some y') (p q : Operand) (w : World) :
    (do eqGuard op t p q x' y'; binOp op t x' y' : Sem Value).run C.P w = .ok v w ∧ plain v = true := by
  cases hi : asInt x with
  | some s =>
    have hxx := asInt_eq hi
    subst hxx
    have h : ob (asInt y) (binInt C op s) = some v := by unfold binE at h; rw [hi] at h; exact h
    obtain ⟨s2, h1, h2⟩ := ob_eq_some h
    have hyy := asInt_eq h1
    subst hyy
    simp [conc] at hx hy
    subst hx; subst hy
    rw [eqGuard_at_int]
    simp only [pure_bind]
    unfold binInt at h2
    cases hk : Nat.beq (kno s.1) (kno s2.1) with
    | true =>
      rw [hk] at h2
      have := kno_inj (Nat.eq_of_beq_eq_true hk)
      rw [← this]
      exact intOp_ok h2 t w
    | false =>
      rw [hk] at h2
      obtain ⟨_, h3⟩ := og_eq_some h2
      obtain ⟨h4, h5⟩ := plainE_run h3
      rw [binOp_any op t 0]
      exact ⟨h4 w, h5⟩
  | none =>
    have h : binCold C op t x y = some v := by unfold binE at h; rw [hi] at h; exact h
    unfold binCold at h
    split at h
    · split at h
      · simp [conc] at hx hy
        subst hx; subst hy
        rw [eqGuard_at_string]
        simp only [pure_bind]
        exact strOp_ok h t w
      · cases h
    · obtain ⟨h1, h2⟩ := og_eq_some h
      obtain ⟨h3, h4⟩ := plainE_run h2
      simp [conc] at hx
      subst hx
      rw [conc_plain ρ h1] at hy
      cases hy
      rw [eqGuard_at_float]
      simp only [pure_bind]
      exact ⟨h3 w, h4⟩
    · cases h
    · cases h
    · rename_i n1 n2 n3 n4
      split at h
      · obtain ⟨r, h1, h2⟩ := ob_eq_some h
        cases h2
        refine ⟨(eqBin_run K hx hy h1 (fun k n e => n4 k n e) (fun s e => ?_) (fun k n e => n2 k n e) (fun k n m e => n3 k n m e) p q w).1 rfl, plain_bool _⟩
        obtain ⟨⟨s⟩⟩ := s
        exact n1 s e
      · obtain ⟨r, h1, h2⟩ := ob_eq_some h
        cases h2
        refine ⟨(eqBin_run K hx hy h1 (fun k n e => n4 k n e) (fun s e => ?_) (fun k n e => n2 k n e) (fun k n m e => n3 k n m e) p q w).2 rfl, plain_bool _⟩
        obtain ⟨⟨s⟩⟩ := s
        exact n1 s e
      · cases h
theorem opBin_sound (R : Rep ρ H B w) (hr : Rel C ρ l tm a) {op : BinOp} {t u : TypeId} {x y : Operand} {r : ORes} (h : opBin op t x y u C l tm id H = some r) :
    Post C id ρ H B w (do pure (.value (← (do eqGuard op t x y (a.eval x) (a.eval y); binOp op t (a.eval x) (a.eval y) : Sem Value)))) r := by
  obtain ⟨v, h1, rfl⟩ := wrap1_eq h
  obtain ⟨p, h2, h3⟩ := ob_eq_some h1
  obtain ⟨q, h4, h5⟩ := ob_eq_some h3
  obtain ⟨g1, g2⟩ := binE_run K h5 (look_sound hr h2) (look_sound hr h4) x y w
  exact Val.post R ⟨v, g1, conc_plain ρ g2⟩
omit K in
theorem unE_run {P : Program} {op : UnOp} {x x' v : Value} (h : unE P op x = some v) (hx : conc ρ x = some x') (w : World) : (Op.unary op x').run P w = .ok v w ∧ plain v = true := by
  unfold unE at h
  split at h
  · rename_i b
    simp [conc] at hx
    subst hx
    have h : someB (Bool.rec (motive := fun _ => Bool) true false b) = some v := h
    have := someB_eq h
    subst this
    cases b <;> exact ⟨rfl, plain_bool _⟩
  · obtain ⟨h1, h2⟩ := og_eq_some h
    rw [conc_plain ρ h1] at hx
    cases hx
    obtain ⟨h3, h4⟩ := plainE_run h2
    exact ⟨h3 w, h4⟩
omit K in
theorem opUn_sound (R : Rep ρ H B w) (hr : Rel C ρ l tm a) {op : UnOp} {t : TypeId} {x : Operand} {r : ORes} (h : opUn op t x C l tm id H = some r) :
    Post C id ρ H B w (do pure (.value (← Op.unary op (a.eval x)))) r := by
  obtain ⟨v, h1, rfl⟩ := wrap1_eq h
  obtain ⟨p, h2, h3⟩ := ob_eq_some h1
  obtain ⟨g1, g2⟩ := unE_run h3 (look_sound hr h2) w
  exact Val.post R ⟨v, g1, conc_plain ρ g2⟩
omit K in
theorem ptrE_eq {b off : Nat} {v : Value} (h : ptrE b off = some v) : v = .pointer (some ⟨b, off, none⟩) := by
  unfold ptrE at h
  rw [natF_eq] at h
  cases h; rfl
omit K in
theorem asSlice_conc {x x' : Value} {s : SV} (h : asSlice x = some s) (hx : conc ρ x = some x') : SVAt ρ x' s := by
  unfold asSlice at h
  split at h <;> cases h
  · simp [conc] at hx
    exact hx.symm
  · rename_i b off sp len cap
    cases hb : ρ b with
    | none => simp [conc, concSlice, hb] at hx
    | some lo =>
      refine ⟨lo, hb, ?_⟩
      cases sp <;> simp [conc, concSlice, hb] at hx <;> exact hx.symm
theorem indexAddr_sound {t : TypeId} {x i x' i' v : Value} (h : indexAddrE C t x i = some v) (hx : conc ρ x = some x') (hi : conc ρ i = some i') (w : World) : Val C ρ w (Instr.indexAt t x' i') v := by
  obtain ⟨n, h1, h2⟩ := ob_eq_some h
  obtain ⟨d, h3, h4⟩ := ob_eq_some h2
  obtain ⟨k, rfl⟩ := asNat_eq h1
  simp [conc] at hi
  subst hi
  have hu := K.run_und h3 w
  unfold ix1 at h4
  cases he : asSl d with
  | some e =>
    rw [he] at h4
    have := asSl_eq he
    subst this
    obtain ⟨s, h5, h6⟩ := ob_eq_some (o := asSlice x) (k := fun s => ixSl C n e s) h4
    have hs := asSlice_conc h5 hx
    cases s with
    | nil => cases h6
    | mk b off o len cap =>
      obtain ⟨lo, hb, rfl⟩ := hs
      obtain ⟨h7, h8⟩ := og_eq_some h6
      obtain ⟨j, h9, h10⟩ := ob_eq_some h8
      have := ptrE_eq h10
      subst this
      have hlt : n < len := Nat.le_of_ble_eq_true h7
      refine ⟨_, ?_, conc_ptr_mk hb⟩
      simp only [Instr.indexAt, asIntOf, Sem.run_bind, hu, Result.andThen_ok, pure_bind]
      rw [if_pos (by omega)]
      simp only [Sem.run_bind, K.run_size h9, Result.andThen_ok, Sem.run_pure, addr_add, Int.toNat_natCast]
      congr 4
      show lo.sh + off + n * j.size = lo.sh + (off + n * j.size)
      omega
  | none =>
    rw [he] at h4
    obtain ⟨p, h5, h6⟩ := ob_eq_some (o := asArr d) (k := ixArr C n x) h4
    obtain ⟨q, h7, h8⟩ := ob_eq_some h6
    obtain ⟨h9, h10⟩ := og_eq_some h8
    obtain ⟨j, h11, h12⟩ := ob_eq_some h10
    have := ptrE_eq h12
    subst this
    have := asArr_eq h5
    subst this
    have := asPtr_eq h7
    subst this
    obtain ⟨lo, hb, rfl⟩ := conc_ptr hx
    have hlt : n < p.1 := Nat.le_of_ble_eq_true h9
    refine ⟨_, ?_, conc_ptr_mk hb⟩
    simp only [Instr.indexAt, Instr.sureAddr, asIntOf, Sem.run_bind, hu, Result.andThen_ok, pure_bind]
    rw [if_pos (by omega)]
    simp only [Sem.run_bind, K.run_size h11, Result.andThen_ok, Sem.run_pure, addr_add, Int.toNat_natCast]
    congr 4
    show lo.sh + q.2 + n * j.size = lo.sh + (q.2 + n * j.size)
    omega
theorem opIndexAddr_sound (R : Rep ρ H B w) (hr : Rel C ρ l tm a) {t : TypeId} {x i : Operand} {r : ORes} (h : opIndexAddr t x i C l tm id H = some r) :
    Post C id ρ H B w (do pure (.value (← Instr.indexAt t (a.eval x) (a.eval i)))) r := by
  obtain ⟨v, h1, rfl⟩ := wrap1_eq h
  obtain ⟨p, h2, h3⟩ := ob_eq_some h1
  obtain ⟨q, h4, h5⟩ := ob_eq_some h3
  exact Val.post R (indexAddr_sound K h5 (look_sound hr h2) (look_sound hr h4) w)
theorem fieldAddr_sound {t : TypeId} {x x' v : Value} {f : Nat} (h : fieldAddrE C t x f = some v) (hx : conc ρ x = some x') (w : World) : Val C ρ w (Instr.fieldAt t x' f) v := by
  obtain ⟨p, h1, h2⟩ := ob_eq_some h
  obtain ⟨d, h3, h4⟩ := ob_eq_some h2
  obtain ⟨fs, h5, h6⟩ := ob_eq_some h4
  obtain ⟨fd, h7, h8⟩ := ob_eq_some h6
  obtain ⟨j, h9, h10⟩ := ob_eq_some h8
  obtain ⟨h11, h12⟩ := og_eq_some h10
  have := ptrE_eq h12
  subst this
  have := asPtr_eq h1
  subst this
  have := asStruct_eq h5
  subst this
  obtain ⟨lo, hb, rfl⟩ := conc_ptr hx
  have hj : ¬ j.size = 0 := by have := Nat.le_of_ble_eq_true h11; omega
  have h7' : (Array.mk fs)[f]? = some fd := by simpa using h7
  refine ⟨_, ?_, conc_ptr_mk hb⟩
  simp only [Instr.fieldAt, Sem.run_bind, K.run_und h3 w, Result.andThen_ok, h7', Instr.sureAddr, Sem.run_pure, pure_bind, fieldPlace, K.run_size h9, hj, if_false, addr_add]
  congr 4
  show lo.sh + p.2 + fd.offset = lo.sh + (p.2 + fd.offset)
  omega
theorem opFieldAddr_sound (R : Rep ρ H B w) (hr : Rel C ρ l tm a) {t : TypeId} {x : Operand} {f : Nat} {r : ORes} (h : opFieldAddr t x f C l tm id H = some r) :
    Post C id ρ H B w (do pure (.value (← Instr.fieldAt t (a.eval x) f))) r := by
  obtain ⟨v, h1, rfl⟩ := wrap1_eq h
  obtain ⟨p, h2, h3⟩ := ob_eq_some h1
  exact Val.post R (fieldAddr_sound K h3 (look_sound hr h2) w)
omit K in
theorem concL_drop {xs ys : List Value} (h : concL ρ xs = some ys) (n : Nat) : concL ρ (xs.drop n) = some (ys.drop n) := by
  induction n generalizing xs ys with
  | zero => simpa using h
  | succ n ih =>
    cases xs with
    | nil => simp [concL] at h; subst h; simp [concL]
    | cons x xs =>
      obtain ⟨x', xs', _, e2, rfl⟩ := concL_cons h
      simpa using ih e2
omit K in
theorem concL_take {xs ys : List Value} (h : concL ρ xs = some ys) (n : Nat) : concL ρ (xs.take n) = some (ys.take n) := by
  induction n generalizing xs ys with
  | zero => simp [concL]
  | succ n ih =>
    cases xs with
    | nil => simp [concL] at h; subst h; simp [concL]
    | cons x xs =>
      obtain ⟨x', xs', e1, e2, rfl⟩ := concL_cons h
      simp [concL, e1, ih e2]
theorem part_sound {t : TypeId} {cs cs' : List Value} {off : Nat} {v : Value} (h : partE C t cs off = some v) (hc : concL ρ cs = some cs') (w : World) : Val C ρ w (part t ⟨cs'⟩ off) v := by
  obtain ⟨i, h1, h2⟩ := ob_eq_some h
  cases hag : i.agg with
  | false =>
    rw [hag] at h2
    obtain ⟨v', e1, e2⟩ := (concL_iff.1 hc).2 off v h2
    refine ⟨v', ?_, e2⟩
    simp [part, K.run_isAgg h1, hag, e1]
  | true =>
    rw [hag] at h2
    cases h2
    refine ⟨_, ?_, conc_agg_mk (concL_take (concL_drop hc off) i.size)⟩
    simp only [part, Sem.run_bind, K.run_isAgg h1, hag, Result.andThen_ok, if_true, K.run_size h1, Sem.run_pure]
    congr 2
    apply Array.ext'
    simp [List.take_drop]
theorem field_sound {t : TypeId} {x x' v : Value} {f : Nat} (h : fieldE C t x f = some v) (hx : conc ρ x = some x') (w : World) : Val C ρ w (Instr.field t x' f) v := by
  obtain ⟨cs, h1, h2⟩ := ob_eq_some h
  obtain ⟨d, h3, h4⟩ := ob_eq_some h2
  obtain ⟨fs, h5, h6⟩ := ob_eq_some h4
  obtain ⟨fd, h7, h8⟩ := ob_eq_some h6
  have := asAgg_eq h1
  subst this
  have := asStruct_eq h5
  subst this
  obtain ⟨cs', hc, rfl⟩ := conc_agg hx
  obtain ⟨v', e1, e2⟩ := part_sound K h8 hc w
  refine ⟨v', ?_, e2⟩
  have h7' : (Array.mk fs)[f]? = some fd := by simpa using h7
  simp only [Instr.field, Sem.run_bind, K.run_und h3 w, Result.andThen_ok, h7', Go.asAgg, pure_bind]
  exact e1
theorem opField_sound (R : Rep ρ H B w) (hr : Rel C ρ l tm a) {t : TypeId} {x : Operand} {f : Nat} {r : ORes} (h : opField t x f C l tm id H = some r) :
    Post C id ρ H B w (do pure (.value (← Instr.field t (a.eval x) f))) r := by
  obtain ⟨v, h1, rfl⟩ := wrap1_eq h
  obtain ⟨p, h2, h3⟩ := ob_eq_some h1
  exact Val.post R (field_sound K h3 (look_sound hr h2) w)
theorem index_sound {t : TypeId} {x i x' i' v : Value} (h : indexE C t x i = some v) (hx : conc ρ x = some x') (hi : conc ρ i = some i') (w : World) : Val C ρ w (Instr.index t x' i') v := by
  obtain ⟨n, h1, h2⟩ := ob_eq_some h
  obtain ⟨k, rfl⟩ := asNat_eq h1
  simp [conc] at hi
  subst hi
  cases hs : asStr x with
  | none =>
    rw [hs] at h2
    obtain ⟨cs, h3, h4⟩ := ob_eq_some (o := asAgg x) h2
    obtain ⟨d, h5, h6⟩ := ob_eq_some h4
    obtain ⟨p, h7, h8⟩ := ob_eq_some h6
    obtain ⟨h9, h10⟩ := og_eq_some h8
    obtain ⟨j, h11, h12⟩ := ob_eq_some h10
    have := asAgg_eq h3
    subst this
    have := asArr_eq h7
    subst this
    obtain ⟨cs', hc, rfl⟩ := conc_agg hx
    obtain ⟨v', e1, e2⟩ := part_sound K h12 hc w
    refine ⟨v', ?_, e2⟩
    have hlt : n < p.1 := Nat.le_of_ble_eq_true h9
    simp only [Instr.index, asIntOf, Sem.run_bind, K.run_und h5 w, Result.andThen_ok, pure_bind]
    rw [if_pos (by omega)]
    simp only [Sem.run_bind, K.run_size h11, Result.andThen_ok, Int.toNat_natCast]
    exact e1
  | some s =>
    rw [hs] at h2
    obtain ⟨d, h5, h6⟩ := ob_eq_some (o := C.und t) h2
    have := asStr_eq hs
    subst this
    simp [conc] at hx
    subst hx
    split at h6
    · obtain ⟨b, h7, h8⟩ := ob_eq_some h6
      rw [natF_eq] at h8
      cases h8
      refine ⟨_, ?_, conc_int _ _⟩
      have h7' : (ByteArray.mk ⟨s⟩)[n]? = some b := by
        obtain ⟨hlt, e⟩ := List.getElem?_eq_some_iff.1 h7
        have hl : n < (ByteArray.mk ⟨s⟩).size := hlt
        rw [getElem?_pos (ByteArray.mk ⟨s⟩) n hl]
        congr 1
      simp only [Instr.index, asIntOf, Sem.run_bind, K.run_und h5 w, Result.andThen_ok, pure_bind]
      rw [if_pos (by omega)]
      simp only [Int.toNat_natCast, h7', Sem.run_pure]
      rfl
    · cases h6
theorem opIndex_sound (R : Rep ρ H B w) (hr : Rel C ρ l tm a) {t : TypeId} {x i : Operand} {r : ORes} (h : opIndex t x i C l tm id H = some r) :
    Post C id ρ H B w (do pure (.value (← Instr.index t (a.eval x) (a.eval i)))) r := by
  obtain ⟨v, h1, rfl⟩ := wrap1_eq h
  obtain ⟨p, h2, h3⟩ := ob_eq_some h1
  obtain ⟨q, h4, h5⟩ := ob_eq_some h3
  exact Val.post R (index_sound K h5 (look_sound hr h2) (look_sound hr h4) w)
omit K in
theorem opExtract_sound (R : Rep ρ H B w) (hr : Rel C ρ l tm a) {x : Operand} {i : Nat} {r : ORes} (h : opExtract x i C l tm id H = some r) :
    Post C id ρ H B w (do pure (.value (← Instr.extract (a.eval x) i))) r := by
  obtain ⟨v, h1, rfl⟩ := wrap1_eq h
  obtain ⟨p, h2, h3⟩ := ob_eq_some h1
  obtain ⟨vs, h4, h5⟩ := ob_eq_some h3
  have := asTup_eq h4
  subst this
  obtain ⟨vs', hc, he⟩ := conc_tuple (look_sound hr h2)
  obtain ⟨v', e1, e2⟩ := (concL_iff.1 hc).2 i v h5
  refine Val.post R ⟨v', ?_, e2⟩
  rw [he]
  have : (Array.mk vs')[i]? = some v' := by simpa using e1
  simp [Instr.extract, e1]
end
end Go.Ax

namespace Go.Ax
section
variable {C : Ctx} {ρ : Env} {H : Heap} {B : Nat} {w : World} {l : LV} {tm : T Value} {a : Act} {id : Nat}
theorem opMove_sound (R : Rep ρ H B w) (hr : Rel C ρ l tm a) {x : Operand} {r : ORes} (h : opMove x C l tm id H = some r) : Post C id ρ H B w (pure (.value (a.eval x))) r := by
  obtain ⟨v, h1, rfl⟩ := wrap1_eq h
  exact ⟨ρ, _, w, rfl, look_sound hr h1, R, Stp.refl _ _ _ _⟩
theorem opPick_sound (R : Rep ρ H B w) (hr : Rel C ρ l tm a) {c x y : Operand} {r : ORes} (h : opPick c x y C l tm id H = some r) :
    Post C id ρ H B w (do pure (.value (if ← Go.asBool (a.eval c) then a.eval x else a.eval y))) r := by
  obtain ⟨v, h1, rfl⟩ := wrap1_eq h
  obtain ⟨p, h2, h3⟩ := ob_eq_some h1
  obtain ⟨b, h4, h5⟩ := ob_eq_some h3
  have := asBool_eq h4
  subst this
  have hc := look_sound hr h2
  simp [conc] at hc
  cases b with
  | true =>
    have h5 : look x l tm = some v := h5
    exact ⟨ρ, _, w, by simp [← hc, Go.asBool], look_sound hr h5, R, Stp.refl _ _ _ _⟩
  | false =>
    have h5 : look y l tm = some v := h5
    exact ⟨ρ, _, w, by simp [← hc, Go.asBool], look_sound hr h5, R, Stp.refl _ _ _ _⟩
theorem opNilCheck_sound (R : Rep ρ H B w) (hr : Rel C ρ l tm a) {x : Operand} {r : ORes} (h : opNilCheck x C l tm id H = some r) :
    ∃ b, a.eval x = .pointer (some b) ∧ Post C id ρ H B w (pure (.value (a.eval x))) r := by
  obtain ⟨v, h1, rfl⟩ := wrap1_eq h
  obtain ⟨p, h2, h3⟩ := ob_eq_some h1
  obtain ⟨q, h4, h5⟩ := ob_eq_some h3
  cases h5
  have hc := look_sound hr h2
  have := asPtr_eq h4
  subst this
  obtain ⟨lo, hb, he⟩ := conc_ptr hc
  exact ⟨_, he, ρ, _, w, rfl, hc, R, Stp.refl _ _ _ _⟩
theorem opMakeFunc_sound (R : Rep ρ H B w) (hr : Rel C ρ l tm a) {fn : Fn} {x y : Array Operand} {r : ORes} (h : opMakeFunc fn x y C l tm id H = some r) :
    Post C id ρ H B w (do pure (.value (← Instr.makeFunc fn (x.map a.eval) (y.map a.eval)))) r := by
  unfold opMakeFunc at h
  split at h
  · obtain ⟨v, h1, rfl⟩ := wrap1_eq h
    obtain ⟨p, h2, h3⟩ := ob_eq_some h1
    obtain ⟨q, h4, h5⟩ := ob_eq_some h3
    cases h5
    have e1 := looks_sound hr h2
    have e2 := looks_sound hr h4
    refine Val.post R ⟨_, rfl, ?_⟩
    have f1 : x.map a.eval = ⟨x.toList.map a.eval⟩ := by apply Array.ext'; simp
    have f2 : y.map a.eval = ⟨y.toList.map a.eval⟩ := by apply Array.ext'; simp
    simp [conc, concA, e1, e2, f1, f2]
  · cases h
end
section
variable {C : Ctx} (K : C.Ok) {ρ : Env} {H : Heap} {B : Nat} {w : World} {l : LV} {tm : T Value} {a : Act} {id : Nat}
include K
theorem opMakeIface_sound (R : Rep ρ H B w) (hr : Rel C ρ l tm a) {t : TypeId} {x : Operand} {r : ORes} (h : opMakeIface t x C l tm id H = some r) :
    Post C id ρ H B w (do pure (.value (← Instr.makeInterface t (a.eval x)))) r := by
  obtain ⟨v, h1, rfl⟩ := wrap1_eq h
  obtain ⟨p, h2, h3⟩ := ob_eq_some h1
  obtain ⟨d, h4, h5⟩ := ob_eq_some h3
  obtain ⟨h6, h7⟩ := og_eq_some h5
  cases h7
  refine Val.post R ⟨.iface t (a.eval x), ?_, by simp [conc, look_sound hr h2]⟩
  simp only [Instr.makeInterface, Sem.run_bind, K.run_und h4 w, Result.andThen_ok]
  cases d <;> first | rfl | (simp [notIface] at h6)
omit K in
theorem intsOf_eq : ∀ {xs : List Value} {bs : List UInt8}, intsOf xs = some bs → ∃ ns : List Int, xs = ns.map (Value.int .u8) ∧ bs = ns.map (fun n => UInt8.ofNat n.toNat)
  | [], bs, h => by cases h; exact ⟨[], rfl, rfl⟩
  | v :: xs, bs, h => by
    unfold intsOf at h
    split at h
    · rename_i e; cases e
    · rename_i n vs e
      cases e
      split at h <;> cases h
      rename_i bs h1
      obtain ⟨ns, e1, e2⟩ := intsOf_eq h1
      exact ⟨n :: ns, by simp [e1], by simp [e2]⟩
    · cases h
omit K in
theorem foldl_push_list (ns : List Int) (s : ByteArray) : ns.foldl (fun r n => r.push (UInt8.ofNat n.toNat)) s = ⟨⟨s.data.toList ++ ns.map (fun n => UInt8.ofNat n.toNat)⟩⟩ := by
  induction ns generalizing s with
  | nil => simp
  | cons n ns ih =>
    rw [List.foldl_cons, ih]
    simp [ByteArray.push]
omit K in
theorem intsOf_plain : ∀ {xs : List Value} {bs : List UInt8}, intsOf xs = some bs → plainL xs = true
  | [], _, _ => rfl
  | v :: xs, bs, h => by
    unfold intsOf at h
    split at h
    · rename_i e; cases e
    · rename_i n vs e
      cases e
      split at h <;> cases h
      rename_i h1
      simp [plainL, plain, intsOf_plain h1]
    · cases h
omit K in
theorem bytesOf_plain : ∀ (bs : List UInt8), plainL (bytesOf bs) = true
  | [] => rfl
  | b :: bs => by simp [bytesOf, plainL, plain, bytesOf_plain bs]
omit K in
theorem bytesOf_eq : ∀ (bs : List UInt8), bytesOf bs = bs.map fun b => Value.int .u8 (b.toNat : Int)
  | [] => rfl
  | b :: bs => by simp [bytesOf, bytesOf_eq bs]
omit K in
theorem shape_of {w : World} {c : Nat} {arr : Array Value} {el : TypeId} {fr : Nat × Nat} (h : w.heap[c]? = some (.cells arr el fr)) : w.shape? c = some (el, arr.size) := by
  simp [World.shape?, h]
omit K in
theorem run_viewAt_of {P : Program} {w : World} {c : Nat} {s : TypeId × Nat} (h : w.shape? c = some s) : (viewAt c).run P w = .ok none w := by
  simp [viewAt, h]
omit K in
theorem run_seenAt_of {P : Program} {w : World} {a : Addr} {s : TypeId × Nat} (h : w.shape? a.block = some s) : (Conv.seenAt a).run P w = .ok a w := by
  simp [Conv.seenAt, run_viewAt_of h]
omit K in
theorem run_cellsIn_of {P : Program} {w : World} {c e n : Nat} (h : w.shape? c = some (e, n)) : (cellsIn c).run P w = .ok (some n) w := by
  simp [cellsIn, h]
theorem Ctx.Ok.cellsOf {t : TypeId} {i : TI} (h : C.tys.get t = some i) : C.P.cellsOf t = i.size := by
  obtain ⟨info, h1, _, _, h4, _⟩ := K.tys t i h
  simp [Program.cellsOf, h1, h4]
omit K in
theorem sameLayout_refl (P : Program) (d : Nat) (t : TypeId) : sameLayout P (d + 1) t t = true := by
  simp [sameLayout]
omit K in
theorem rowAt_row {P : Program} {fits : TypeId → Bool} {d e count off n s : Nat} (hs : P.cellsOf e = s) (h0 : s ≠ 0) (hr : off % s = 0) (hn : off / s + n ≤ count) (hf : fits e = true) : rowAt P fits (d + 1) e count off n = true := by
  simp [rowAt, hs, h0, hr, hn, hf]
omit K in
theorem liesAt_row {P : Program} {e count off n s : Nat} (hs : P.cellsOf e = s) (h0 : s ≠ 0) (hr : off % s = 0) (hn : off / s + n ≤ count) : liesAt P P.depth e count off e n = true := by
  have hd : P.depth = (2 * (P.types.size + Made.depth) + 1) + 1 := rfl
  generalize hD : 2 * (P.types.size + Made.depth) + 1 = D at hd
  have hrow : rowAt P (sameLayout P P.depth · e) P.depth e count off n = true := by
    rw [hd]
    exact rowAt_row hs h0 hr hn (sameLayout_refl P D e)
  rw [hd] at hrow ⊢
  rw [liesAt, hd, hrow]
  rfl
omit K in
theorem run_variablesAt {P : Program} {w : World} {a : Addr} {e n u k : Nat} (h : w.shape? a.block = some (e, n)) : (variablesAt a u k).run P w = .ok (liesAt P P.depth e (n / P.cellsOf e) a.off u k) w := by
  simp [variablesAt, h]
theorem toUnsafe_sound (R : Rep ρ H B w) {s d t : TypeId} {x : Option Addr} {x' : Value} {r : ORes} (hs : C.P.underlying s = some (.pointer t)) (hd : C.P.underlying d = some .unsafePointer)
    (h : toUnsafe C H t x = some r) (hx : conc ρ (.pointer x) = some x') : Post C id ρ H B w (do pure (.value (← convert s d x'))) r := by
  unfold toUnsafe at h
  split at h
  · cases h
    simp [conc] at hx
    subst hx
    exact Val.post R ⟨.pointer none, by simp [convert, run_underlying hs, run_underlying hd, Conv.unsafePointer], by simp [conc]⟩
  · rename_i b off
    obtain ⟨i, h1, h⟩ := ob_eq_some h
    obtain ⟨h2, h⟩ := og_eq_some h
    obtain ⟨k, h3, h⟩ := ob_eq_some h
    obtain ⟨c, h4, h⟩ := ob_eq_some h
    obtain ⟨h5, h⟩ := og_eq_some h
    cases h
    obtain ⟨esz, fam, pos, frz, ro, rfl⟩ := asCells_eq h4
    obtain ⟨l, e1, arr, el, lo, hi, e2, e3, _⟩ := R.dom b _ h3 rfl
    have hp := hx
    simp [conc, concAddr, e1] at hx
    subst hx
    have h5 : off < c.2 := Nat.le_of_ble_eq_true h5
    have h2 : 1 ≤ i.size := Nat.le_of_ble_eq_true h2
    have hsh : w.shape? l.blk = some (el, arr.size) := shape_of e2
    have hz := K.run_size h1 w
    have hlt : ¬ arr.size ≤ l.sh + off := by omega
    have hne : i.size ≠ 0 := by omega
    refine Val.post R ⟨_, ?_, hp⟩
    simp [convert, run_underlying hs, run_underlying hd, Conv.unsafePointer, run_seenAt_of (a := ⟨l.blk, l.sh + off, none⟩) hsh, run_cellsIn_of hsh, hz, hne, hlt]
  · cases h
omit K in
theorem rooted_eq {b : Nat} {k : Blk} {p : Nat × TypeId} (h : rooted b k = some p) : ∃ vals n pos frz ro, k = .cells vals p.1 ⟨n, p.2⟩ b pos frz ro := by
  cases k with
  | cells vals n esz fam pos frz ro =>
    obtain ⟨h1, h⟩ := og_eq_some h
    cases h
    have := Nat.eq_of_beq_eq_true h1
    subst this
    exact ⟨_, _, _, _, _, rfl⟩
  | _ => cases h
theorem ofUnsafe_sound (R : Rep ρ H B w) {s d u : TypeId} {x : Option Addr} {x' : Value} {r : ORes} (hs : C.P.underlying s = some .unsafePointer) (hd : C.P.underlying d = some (.pointer u))
    (h : ofUnsafe C H u x = some r) (hx : conc ρ (.pointer x) = some x') :
    Post C id ρ H B w (do pure (.value (← convert s d x'))) r := by
  unfold ofUnsafe at h
  split at h
  · cases h
    simp [conc] at hx
    subst hx
    exact Val.post R ⟨.pointer none, by simp [convert, run_underlying hs, run_underlying hd, Conv.unsafePointer], by simp [conc]⟩
  · rename_i b off
    obtain ⟨i, hi, h⟩ := ob_eq_some h
    obtain ⟨k, h3, h⟩ := ob_eq_some h
    obtain ⟨p, h4, h⟩ := ob_eq_some h
    obtain ⟨h5, h⟩ := og_eq_some h
    obtain ⟨h6, h⟩ := og_eq_some h
    obtain ⟨h7, h⟩ := og_eq_some h
    obtain ⟨h8, h⟩ := og_eq_some h
    cases h
    have h5 := Nat.eq_of_beq_eq_true h5
    obtain ⟨vals, n, pos, frz, ro, rfl⟩ := rooted_eq h4
    obtain ⟨l, e1, arr, el, lo, hi', e2, e3, _, e4, _⟩ := R.dom b _ h3 rfl
    have hsh0 := R.root b _ _ _ _ _ _ l h3 e1
    have hp := hx
    simp [conc, concAddr, e1] at hx
    subst hx
    have h6 : 1 ≤ i.size := Nat.le_of_ble_eq_true h6
    have h7 : off % i.size = 0 := Nat.eq_of_beq_eq_true h7
    have h8 : off + i.size ≤ p.1 := Nat.le_of_ble_eq_true h8
    have hsh : w.shape? l.blk = some (el, arr.size) := shape_of e2
    have hc : C.P.cellsOf u = i.size := K.cellsOf hi
    have hz := K.run_size hi w
    have hne : i.size ≠ 0 := by omega
    have heu : el = u := e4.trans h5
    have hl : liesAt C.P C.P.depth u (arr.size / C.P.cellsOf u) (l.sh + off) u 1 = true := by
      refine liesAt_row hc (by omega) (by rw [hsh0, Nat.zero_add]; exact h7) ?_
      rw [hc, hsh0, Nat.zero_add]
      have : off / i.size + 1 = (off + i.size) / i.size := by rw [Nat.add_div_right _ (by omega)]
      rw [this]
      exact Nat.div_le_div_right (by omega)
    rw [heu] at hsh
    refine Val.post R ⟨_, ?_, hp⟩
    simp [convert, run_underlying hs, run_underlying hd, Conv.unsafePointer, run_seenAt_of (a := ⟨l.blk, l.sh + off, none⟩) hsh, run_variablesAt (a := ⟨l.blk, l.sh + off, none⟩) hsh, hz, hne, hl]
  · cases h
theorem conv_sound (R : Rep ρ H B w) (hid : ρ id = none) {s d : TypeId} {x x' : Value} {r : ORes} (h : convE C H id s d x = some r) (hx : conc ρ x = some x') :
    Post C id ρ H B w (do pure (.value (← convert s d x'))) r := by
  unfold convE at h
  split at h
  · cases h
  · rename_i sd hs
    split at h
    · cases h
    · rename_i dd hd
      have us := K.run_und hs
      have ud := K.run_und hd
      split at h
      · rename_i k k' n
        obtain ⟨v, h1, h2⟩ := ob_eq_some h
        cases h2
        simp [conc] at hx
        subst hx
        have hv : v = .int k (k.wrap n) := by
          cases n with
          | ofNat n =>
            have h1 : fitI k n (some (.int k (k.wrap (.ofNat n)))) = some v := h1
            unfold fitI at h1
            cases hb : Nat.ble n (top k) with
            | false => rw [hb] at h1; cases h1; rfl
            | true =>
              rw [hb] at h1
              have h1 : natF n (fun s => some (Value.int k (.ofNat s))) = some v := h1
              rw [natF_eq] at h1
              cases h1
              show _ = Value.int k (k.wrap (n : Int))
              rw [wrap_fit k n (Nat.le_of_ble_eq_true hb)]
              rfl
          | negSucc n =>
            have h1 : some (Value.int k (k.wrap (.negSucc n))) = some v := h1
            cases h1; rfl
        subst hv
        exact Val.post R ⟨.int k (k.wrap n), by simp [convert, us, ud, Conv.intToInt], by simp [conc]⟩
      · rename_i s0
        cases h
        simp [conc] at hx
        subst hx
        refine Val.post R ⟨.string s0, ?_, by simp [conc]⟩
        simp only [convert, Sem.run_bind, us, ud, Result.andThen_ok]
        cases sd <;> rfl
      · rename_i e bs
        split at h
        · rename_i he
          cases h
          simp [conc] at hx
          subst hx
          have hrun := Lib.run_convert_string_bytes (P := C.P) w s d e ⟨⟨bs⟩⟩ (K.und hs) (K.und hd) (K.und he)
          have hcap : bs.length ≤ grownCap w bs.length 0 e := by
            show bs.length ≤ bs.length + _
            omega
          have hasz : (Lib.bytesCells w e ⟨⟨bs⟩⟩).size = grownCap w bs.length 0 e := by
            have hsz : (ByteArray.mk ⟨bs⟩).size = bs.length := rfl
            simp [Lib.bytesCells, hsz]; omega
          have hg : Grow w (Lib.bytesWorld w e ⟨⟨bs⟩⟩) (.cells (Lib.bytesCells w e ⟨⟨bs⟩⟩) e ((Lib.bytesCells w e ⟨⟨bs⟩⟩).size, (Lib.bytesCells w e ⟨⟨bs⟩⟩).size + 1)) :=
            ⟨Lib.bytesWorld_at_new w e _, fun hc => Lib.bytesWorld_at_old w e _ _ hc, Lib.bytesWorld_size w e _, rfl, rfl, rfl⟩
          have hbl : (bytesOf bs).length = bs.length := by simp [bytesOf_eq]
          obtain ⟨g1, g2⟩ := newCells_sound (id := id) R hid (concL_plain ρ (bytesOf_plain bs)) ⟨1, e⟩ (grownCap w bs.length 0 e - bs.length) rfl hg
            (fun i x hx => by
              rw [bytesOf_eq] at hx
              have hi : i < bs.length := by
                rcases Nat.lt_or_ge i bs.length with g | g
                · exact g
                · rw [List.getElem?_eq_none (by simpa using g)] at hx; cases hx
              unfold Lib.bytesCells
              rw [Array.getElem?_append_left (by simpa using hi)]
              simpa using hx)
            (by rw [hbl, hasz]; show bs.length + (grownCap w bs.length 0 e - bs.length) * 1 ≤ _; omega) (fun i hi => by
              rw [hbl] at hi
              replace hi : i < bs.length + (grownCap w bs.length 0 e - bs.length) * 1 := hi
              rw [hasz]; omega)
          refine ⟨_, .slice (some ⟨w.heap.size, 0, none⟩) bs.length (grownCap w bs.length 0 e), _, by rw [Sem.run_bind, hrun]; rfl, ?_, g1, g2⟩
          simp only [conc, concSlice, Env.put_same]
          congr 2
          omega
        · cases h
      · rename_i sx len cap'
        split at h
        · rename_i e
          split at h
          · rename_i he
            have hconv := fun (a : Option Addr) (l c : Nat) => run_convert_bytes_string (P := C.P) w s d e a l c (K.und hs) (K.und he) (K.und hd)
            split at h
            · cases h
              simp [conc] at hx
              subst hx
              refine Val.post R ⟨.string .empty, ?_, by simp [conc]; rfl⟩
              rw [hconv]
              simp [Conv.bytesToString]
            · rename_i b off sp
              obtain ⟨xs, h1, h2⟩ := ob_eq_some h
              obtain ⟨bs, h3, h4⟩ := ob_eq_some h2
              cases h4
              obtain ⟨lo, xs', e1, e2, e3, e4⟩ := rdN_sound R h1
              have hp := intsOf_plain h3
              rw [concL_plain ρ hp] at e2
              cases e2
              obtain ⟨ns, f1, f2⟩ := intsOf_eq h3
              have hx' : ∃ c, x' = .slice (some ⟨lo.blk, lo.sh + off, none⟩) len c := by
                cases sp <;> simp [conc, concSlice, e1] at hx <;> exact ⟨_, hx.symm⟩
              obtain ⟨c, rfl⟩ := hx'
              refine Val.post R ⟨.string ⟨⟨bs⟩⟩, ?_, by simp [conc]⟩
              rw [hconv]
              have hl := run_loadCells_list (P := C.P) w ⟨lo.blk, lo.sh + off, none⟩ xs (fun j x hx => by rw [addr_add]; exact e4 j x hx)
              rw [e3] at hl
              rw [run_bytesToString w _ len c ns (by rw [hl, f1]), foldl_push_list, ← f2]
              rfl
          · cases h
        · cases h
      · rename_i p
        split at h
        · exact toUnsafe_sound K R (K.und hs) (K.und hd) h hx
        · cases h
      · rename_i u p
        split at h
        · exact ofUnsafe_sound K R (K.und hs) (K.und hd) h hx
        · cases h
      · cases h
theorem opConvert_sound (R : Rep ρ H B w) (hr : Rel C ρ l tm a) (hid : ρ id = none) {s d : TypeId} {x : Operand} {r : ORes} (h : opConvert s d x C l tm id H = some r) :
    Post C id ρ H B w (do pure (.value (← convert s d (a.eval x)))) r := by
  obtain ⟨p, h1, h2⟩ := ob_eq_some h
  exact conv_sound K R hid h2 (look_sound hr h1)
omit K in
theorem conc_iface {ρ : Env} {t : TypeId} {v v' : Value} (h : conc ρ (.iface t v) = some v') : ∃ u, conc ρ v = some u ∧ v' = .iface t u := by
  cases hv : conc ρ v with
  | none => simp [conc, hv] at h
  | some u => simp [conc, hv] at h; exact ⟨u, rfl, h.symm⟩
theorem taNo_run {t : TypeId} {ok : Bool} {v : Value} (h : taNo C t ok = some v) : ok = true ∧ ∃ z, (zeroValue t).run C.P w = .ok z w ∧ conc ρ v = some (.tuple #[z, .bool false]) := by
  obtain ⟨h1, h2⟩ := og_eq_some h
  obtain ⟨j, h3, h4⟩ := ob_eq_some h2
  obtain ⟨z, h5, h6⟩ := ob_eq_some h4
  cases h6
  obtain ⟨info, i1, _, _, _, _, _, _, _, i9⟩ := K.tys t j h3
  obtain ⟨i10, i11⟩ := i9 z h5
  exact ⟨h1, z, by simp [zeroValue, typeInfo, i1, i10], by simp [conc, concA, concL, conc_plain ρ i11]⟩
theorem opAssert_sound (R : Rep ρ H B w) (hr : Rel C ρ l tm a) {x : Operand} {t s : TypeId} {ok : Bool} {r : ORes} (h : opAssert x t s ok C l tm id H = some r) :
    Post C id ρ H B w (do pure (.value (← Instr.typeAssert (a.eval x) t s ok))) r := by
  obtain ⟨v, h1, rfl⟩ := wrap1_eq h
  obtain ⟨u, h2, h3⟩ := ob_eq_some h1
  obtain ⟨d, h4, h5⟩ := ob_eq_some h3
  obtain ⟨h6, h7⟩ := og_eq_some h5
  have hu := look_sound hr h2
  have hd := K.run_und h4 w
  refine Val.post R ?_
  unfold ta1 at h7
  split at h7
  · rename_i t' y
    obtain ⟨y', g1, g2⟩ := conc_iface hu
    rw [g2]
    cases hb : Nat.beq t' s with
    | true =>
      rw [hb] at h7
      cases h7
      have := Nat.eq_of_beq_eq_true hb
      subst this
      refine ⟨if ok then .tuple #[y', .bool true] else y', ?_, ?_⟩
      · simp only [Instr.typeAssert, Sem.run_bind, hd, Result.andThen_ok]
        cases d <;> first | (simp; done) | cases h6
      · cases ok
        · exact g1
        · simp [okV, conc, concA, concL, g1]
    | false =>
      rw [hb] at h7
      obtain ⟨rfl, z, g3, g4⟩ := taNo_run (ρ := ρ) (w := w) K h7
      refine ⟨_, ?_, g4⟩
      have hne := Nat.ne_of_beq_eq_false hb
      simp only [Instr.typeAssert, Sem.run_bind, hd, Result.andThen_ok]
      cases d <;> first | (simp [hne, g3]; done) | cases h6
  · simp [conc] at hu
    rw [← hu]
    obtain ⟨rfl, z, g3, g4⟩ := taNo_run (ρ := ρ) (w := w) K h7
    refine ⟨_, ?_, g4⟩
    simp only [Instr.typeAssert, Sem.run_bind, hd, Result.andThen_ok]
    cases d <;> first | (simp [g3]; done) | cases h6
  · cases h7
end
end Go.Ax

namespace Go.Ax
section
variable {C : Ctx} (K : C.Ok) {ρ : Env} {H : Heap} {B : Nat} {w : World} {l : LV} {tm : T Value} {a : Act} {id : Nat}
def capEnd (mx : Option Value) (c m : Nat) : Nat := match mx with
  | none => c
  | some _ => m
def OptC (ρ : Env) : Option Value → Option Value → Prop
  | none, none => True
  | some v, some v' => conc ρ v = some v'
  | _, _ => False
theorem lookO_sound (hr : Rel C ρ l tm a) {x : Option Operand} {v : Option Value} (h : lookO x l tm = some v) : OptC ρ v (x.map a.eval) := by
  cases x with
  | none => cases h; trivial
  | some x =>
    obtain ⟨u, h1, h2⟩ := ob_eq_some (o := look x l tm) (k := fun v => some (some v)) h
    cases h2
    exact look_sound hr h1
theorem boundE_eq {v : Value} {hi n : Nat} (h : boundE v hi = some n) : (∃ k, v = .int k (n : Int)) ∧ n ≤ hi := by
  obtain ⟨m, h1, h2⟩ := ob_eq_some h
  obtain ⟨h3, h4⟩ := og_eq_some h2
  cases h4
  exact ⟨asNat_eq h1, Nat.le_of_ble_eq_true h3⟩
theorem run_bound {P : Program} {v v' : Value} {hi hi' n : Nat} (h : boundE v hi = some n) (hv : conc ρ v = some v') (hle : hi ≤ hi') (code : BoundsCode) (w : World) :
    (Instr.sliceBound v' hi' code).run P w = .ok n w := by
  obtain ⟨⟨k, rfl⟩, hn⟩ := boundE_eq h
  simp [conc] at hv
  subst hv
  rw [run_sliceBound w k n hi' code (by omega) (by omega)]
  rfl
theorem bounds_run {P : Program} {isS : Bool} {len cap cap' : Nat} (hc : cap ≤ cap') {lo hi mx lo' hi' mx' : Option Value} {l h m : Nat} (hb : boundsE len cap lo hi mx = some (l, h, m))
    (hlo : OptC ρ lo lo') (hhi : OptC ρ hi hi') (hmx : OptC ρ mx mx') (w : World) :
    (Instr.sliceBounds isS len cap' lo' hi' mx').run P w = .ok (l, h, capEnd mx cap' m) w ∧ l ≤ h ∧ (mx = none → m = cap) := by
  obtain ⟨m0, h1, h2⟩ := ob_eq_some hb
  obtain ⟨h0, h3, h4⟩ := ob_eq_some h2
  obtain ⟨l0, h5, h6⟩ := ob_eq_some h4
  cases h6
  have e1 : ∃ M, (match (generalizing := false) mx' with | some v => Instr.sliceBound v cap' (if isS then .slice3Acap else .slice3Alen) | none => pure cap' : Sem Nat).run P w = .ok M w ∧ m ≤ M ∧ M = capEnd mx cap' m ∧ (mx = none → m = cap) := by
    cases mx with
    | none =>
      cases mx' with
      | some _ => exact hmx.elim
      | none =>
        have h1 : some cap = some m := h1
        cases h1
        exact ⟨cap', rfl, hc, rfl, fun _ => rfl⟩
    | some v =>
      cases mx' with
      | none => exact hmx.elim
      | some v' =>
        have h1 : boundE v cap = some m := h1
        exact ⟨m, run_bound h1 hmx hc _ w, Nat.le_refl _, rfl, fun e => by cases e⟩
  obtain ⟨M, g1, g2, g3, g4⟩ := e1
  have e2 : (match (generalizing := false) hi', mx' with
      | some v, some _ => Instr.sliceBound v M .slice3B
      | some v, none => Instr.sliceBound v M (if isS then .sliceAcap else .sliceAlen)
      | none, none => pure len
      | none, some _ => stuck "Slice: max without high" : Sem Nat).run P w = .ok h w := by
    cases hi with
    | none =>
      cases hi' with
      | some _ => exact hhi.elim
      | none =>
        cases mx with
        | none =>
          cases mx' with
          | some _ => exact hmx.elim
          | none =>
            have h3 : some len = some h := h3
            cases h3; rfl
        | some v => have h3 : none = some h := h3; cases h3
    | some v =>
      cases hi' with
      | none => exact hhi.elim
      | some v' =>
        have h3 : boundE v m = some h := h3
        cases mx' <;> exact run_bound h3 hhi g2 _ w
  have e3 : (match (generalizing := false) lo' with | some v => Instr.sliceBound v h (if mx'.isSome then .slice3C else .sliceB) | none => pure 0 : Sem Nat).run P w = .ok l w ∧ l ≤ h := by
    cases lo with
    | none =>
      cases lo' with
      | some _ => exact hlo.elim
      | none =>
        have h5 : some 0 = some l := h5
        cases h5
        exact ⟨rfl, Nat.zero_le _⟩
    | some v =>
      cases lo' with
      | none => exact hlo.elim
      | some v' =>
        have h5 : boundE v h = some l := h5
        exact ⟨run_bound h5 hlo (Nat.le_refl _) _ w, (boundE_eq h5).2⟩
  refine ⟨?_, e3.2, g4⟩
  rw [← g3]
  have e3 := e3.1
  unfold Instr.sliceBounds
  clear g3 g4 hb h1 h2 h3 h4 h5 hlo hhi hmx
  cases mx' <;> cases hi' <;> cases lo' <;> simp_all
theorem sliced_sound {b off size : Nat} {o : Bool} {l h m : Nat} {v : Value} (hs : sliced b off size o l h m = some v) {lo : Loc} (hb : ρ b = some lo) (M : Nat) (hM : M = openCap o m lo.ext) :
    conc ρ v = some (.slice (if M = l then some ⟨lo.blk, lo.sh + off, none⟩ else some (Addr.add ⟨lo.blk, lo.sh + off, none⟩ (l * size))) (h - l) (M - l)) := by
  unfold sliced at hs
  split at hs
  · rename_i hlt
    have hlt : l < m := Nat.le_of_ble_eq_true hlt
    simp only [natF_eq] at hs
    cases hs
    have hne : ¬ M = l := by cases o <;> simp [openCap] at hM <;> omega
    rw [if_neg hne, addr_add]
    cases o with
    | false =>
      simp only [openCap] at hM
      subst hM
      simp only [conc, concSlice, hb]
      congr 4
      show lo.sh + (off + l * size) = lo.sh + off + l * size
      omega
    | true =>
      simp only [openCap] at hM
      subst hM
      simp only [conc, concSlice, hb]
      congr 2
      · congr 2
        show lo.sh + (off + l * size) = lo.sh + off + l * size
        omega
      · show m - l + lo.ext = m + lo.ext - l
        omega
  · split at hs
    · cases hs
    · rename_i hml
      have hml := Nat.eq_of_beq_eq_true hml
      subst hml
      split at hs
      · split at hs
        · rename_i hl0
          have hl0 := Nat.eq_of_beq_eq_true hl0
          subst hl0
          cases hs
          simp only [openCap] at hM
          subst hM
          simp only [conc, concSlice, hb, Nat.zero_add, Nat.zero_mul, Nat.sub_zero]
          rw [addr_add]
          simp
        · cases hs
      · cases hs
        simp only [openCap] at hM
        subst hM
        rw [if_pos rfl]
        simp only [conc, concSlice, hb, Nat.sub_self]
        rfl
include K
theorem slice_sound {t : TypeId} {x x' v : Value} {lo hi mx lo' hi' mx' : Option Value} (h : sliceE C t x lo hi mx = some v) (hx : conc ρ x = some x')
    (hlo : OptC ρ lo lo') (hhi : OptC ρ hi hi') (hmx : OptC ρ mx mx') (w : World) : Val C ρ w (Instr.sliceAt t x' lo' hi' mx') v := by
  unfold sliceE at h
  split at h
  · rename_i hu
    split at h
    · cases h
    · obtain ⟨s, h1, h2⟩ := ob_eq_some h
      obtain ⟨p, h3, h4⟩ := ob_eq_some h2
      cases h4
      have := asStr_eq h1
      subst this
      simp [conc] at hx
      subst hx
      cases mx' with
      | some _ => exact hmx.elim
      | none =>
        have hb := (bounds_run (P := C.P) (isS := false) (Nat.le_refl _) h3 hlo hhi hmx w).1
        refine ⟨.string ((ByteArray.mk ⟨s⟩).extract p.1 p.2.1), ?_, ?_⟩
        · have hsz : (ByteArray.mk ⟨s⟩).size = s.length := rfl
          simp only [Instr.sliceAt, Instr.slice, Sem.run_bind, K.run_und hu w, Result.andThen_ok, Option.isSome_none, Bool.false_eq_true, if_false, hsz, hb, Sem.run_pure]
        · have : (ByteArray.mk ⟨s⟩).extract p.1 p.2.1 = ⟨⟨(s.drop p.1).take (p.2.1 - p.1)⟩⟩ := by
            have h0 : ((ByteArray.mk ⟨s⟩).extract p.1 p.2.1).data.toList = (s.drop p.1).take (p.2.1 - p.1) := by
              rw [ByteArray.data_extract]
              simp [List.extract_eq_take_drop]
            cases hh : (ByteArray.mk ⟨s⟩).extract p.1 p.2.1 with
            | mk d =>
              rw [hh] at h0
              cases d with
              | mk ls => simp at h0; rw [h0]
          rw [this]
          exact conc_string _
  · rename_i e hu
    obtain ⟨j, h1, h2⟩ := ob_eq_some h
    obtain ⟨s, h3, h4⟩ := ob_eq_some h2
    have hs := asSlice_conc h3 hx
    cases s with
    | nil =>
      obtain ⟨q, h5, h6⟩ := ob_eq_some h4
      cases h6
      replace hs : x' = .slice none 0 0 := hs
      subst hs
      obtain ⟨hb, hle, hm⟩ := bounds_run (P := C.P) (isS := true) (Nat.le_refl _) (l := q.1) (h := q.2.1) (m := q.2.2) h5 hlo hhi hmx w
      have hq : q.1 = 0 ∧ q.2.1 = 0 ∧ capEnd mx 0 q.2.2 = 0 := by
        obtain ⟨m0, a1, a2⟩ := ob_eq_some h5
        obtain ⟨h0, a3, a4⟩ := ob_eq_some a2
        obtain ⟨l0, a5, a6⟩ := ob_eq_some a4
        cases a6
        have hm0 : m0 = 0 := by
          cases mx with
          | none => have a1 : some 0 = some m0 := a1; cases a1; rfl
          | some v => have a1 : boundE v 0 = some m0 := a1; have := (boundE_eq a1).2; omega
        subst hm0
        have hh0 : h0 = 0 := by
          cases hi with
          | none =>
            cases mx with
            | none => have a3 : some 0 = some h0 := a3; cases a3; rfl
            | some v => have a3 : none = some h0 := a3; cases a3
          | some v => have a3 : boundE v 0 = some h0 := a3; have := (boundE_eq a3).2; omega
        subst hh0
        refine ⟨Nat.le_zero.1 hle, rfl, ?_⟩
        cases mx <;> rfl
      refine ⟨.slice none 0 0, ?_, by simp [conc]⟩
      simp only [Instr.sliceAt, Instr.slice, Sem.run_bind, K.run_und hu w, Result.andThen_ok, hb, K.run_size h1, Sem.run_pure]
      simp [hq.1, hq.2.1, hq.2.2]
    | mk b off o len cap =>
      obtain ⟨q, h5, h6⟩ := ob_eq_some h4
      obtain ⟨loc, hbl, rfl⟩ := hs
      have hcap : cap ≤ openCap o cap loc.ext := by cases o <;> simp [openCap]
      obtain ⟨hb, hle, hm⟩ := bounds_run (P := C.P) (isS := true) hcap (l := q.1) (h := q.2.1) (m := q.2.2) h5 hlo hhi hmx w
      refine ⟨_, ?_, sliced_sound h6 hbl (capEnd mx (openCap o cap loc.ext) q.2.2) ?_⟩
      · simp only [Instr.sliceAt, Instr.slice, Sem.run_bind, K.run_und hu w, Result.andThen_ok, hb, K.run_size h1, Sem.run_pure, Option.map_some]
      · cases mx with
        | none => have := hm rfl; cases o <;> simp [this, capEnd, openCap]
        | some _ => rfl
  · rename_i n e hu
    obtain ⟨j, h1, h2⟩ := ob_eq_some h
    obtain ⟨p, h3, h4⟩ := ob_eq_some h2
    obtain ⟨q, h5, h6⟩ := ob_eq_some h4
    have := asPtr_eq h3
    subst this
    obtain ⟨loc, hbl, rfl⟩ := conc_ptr hx
    obtain ⟨hb, hle, hm⟩ := bounds_run (P := C.P) (isS := false) (Nat.le_refl _) (l := q.1) (h := q.2.1) (m := q.2.2) h5 hlo hhi hmx w
    have hM : capEnd mx n q.2.2 = q.2.2 := by cases mx <;> simp [hm, capEnd]
    refine ⟨_, ?_, sliced_sound h6 hbl q.2.2 rfl⟩
    simp only [Instr.sliceAt, Instr.sureAddr, Sem.run_bind, K.run_und hu w, Result.andThen_ok, Sem.run_pure, pure_bind, hb, K.run_size h1, hM]
    congr 2
    split <;> rfl
  · cases h
theorem opSlice_sound (R : Rep ρ H B w) (hr : Rel C ρ l tm a) {t : TypeId} {x : Operand} {lo hi mx : Option Operand} {r : ORes} (h : opSlice t x lo hi mx C l tm id H = some r) :
    Post C id ρ H B w (do pure (.value (← Instr.sliceAt t (a.eval x) (lo.map a.eval) (hi.map a.eval) (mx.map a.eval)))) r := by
  obtain ⟨v, h1, rfl⟩ := wrap1_eq h
  obtain ⟨p, h2, h3⟩ := ob_eq_some h1
  obtain ⟨q1, h4, h5⟩ := ob_eq_some h3
  obtain ⟨q2, h6, h7⟩ := ob_eq_some h5
  obtain ⟨q3, h8, h9⟩ := ob_eq_some h7
  exact Val.post R (slice_sound K h9 (look_sound hr h2) (lookO_sound hr h4) (lookO_sound hr h6) (lookO_sound hr h8) w)
theorem lenOp_sound (R : Rep ρ H B w) {t ty : TypeId} {x x' v : Value} (h : lenOpE C H t x = some v) (hx : conc ρ x = some x') : Val C ρ w (Builtin.len_ #[t] ty #[x']) v := by
  unfold lenOpE at h
  split at h
  · obtain ⟨d, h1, h2⟩ := ob_eq_some h
    obtain ⟨e, h3, h4⟩ := ob_eq_some h2
    cases h4
    have := asSl_eq h3
    subst this
    obtain ⟨y', c', rfl, _⟩ := conc_slice_shape hx
    exact ⟨_, by simp [Builtin.len_, K.run_und h1 w, goInt], conc_int _ _⟩
  · split at h
    · rename_i hu
      rw [natF_eq] at h
      cases h
      simp [conc] at hx
      subst hx
      refine ⟨_, ?_, conc_int _ _⟩
      simp [Builtin.len_, K.run_und hu w, goInt]
      rfl
    · cases h
  · obtain ⟨d, h1, h2⟩ := ob_eq_some h
    obtain ⟨e, h3, h4⟩ := ob_eq_some h2
    cases h4
    have := asMp_eq h3
    subst this
    simp [conc] at hx
    subst hx
    exact ⟨_, by simp [Builtin.len_, K.run_und h1 w, goInt], conc_int _ _⟩
  · rename_i r
    obtain ⟨d, h1, h2⟩ := ob_eq_some h
    obtain ⟨e, h3, h4⟩ := ob_eq_some h2
    obtain ⟨k, h5, h6⟩ := ob_eq_some h4
    obtain ⟨es, h7, h8⟩ := ob_eq_some h6
    rw [natF_eq] at h8
    cases h8
    have := asMp_eq h3
    subst this
    have := asEntries_eq h7
    subst this
    obtain ⟨lo, hl, es', g1, g2⟩ := R.dom r _ h5 rfl
    simp [conc, hl] at hx
    subst hx
    have hlen : es'.size = es.1.length := by
      have : ∀ {xs ys : List MapEntry}, All2 (EntryAt ρ) xs ys → xs.length = ys.length := by
        intro xs ys hh
        induction hh with
        | nil => rfl
        | cons _ _ ih => simp [ih]
      rw [this g2]; simp
    refine ⟨_, ?_, conc_int _ _⟩
    simp [Builtin.len_, K.run_und h1 w, goInt, getObj, Sem.run, g1, hlen]
  · obtain ⟨d, h1, h2⟩ := ob_eq_some h
    obtain ⟨e, h3, h4⟩ := ob_eq_some h2
    cases h4
    have := asArr_eq h3
    subst this
    rename_i cs
    cases cs
    obtain ⟨cs', _, rfl⟩ := conc_agg hx
    exact ⟨_, by simp [Builtin.len_, K.run_und h1 w, goInt], conc_int _ _⟩
  · obtain ⟨y', rfl, _⟩ := conc_pointer_shape hx
    split at h
    · rename_i hu
      obtain ⟨d, h1, h2⟩ := ob_eq_some h
      obtain ⟨e, h3, h4⟩ := ob_eq_some h2
      cases h4
      have := asArr_eq h3
      subst this
      exact ⟨_, by simp [Builtin.len_, K.run_und hu w, K.run_und h1 w, goInt], conc_int _ _⟩
    · rename_i hu
      cases h
      exact ⟨_, by simp [Builtin.len_, K.run_und hu w, goInt], conc_int _ _⟩
    · cases h
  · cases h
end
end Go.Ax

namespace Go.Ax
theorem rep_zero (z : List Value) : rep z 0 = [] := rfl
theorem rep_succ (z : List Value) (n : Nat) : rep z (n + 1) = z ++ rep z n := rfl
theorem rep_length (z : List Value) (n : Nat) : (rep z n).length = n * z.length := by
  induction n with
  | zero => simp [rep_zero]
  | succ n ih => rw [rep_succ, List.length_append, ih, Nat.add_mul]; omega
theorem rep_get (z : List Value) (n i : Nat) (h : i < n * z.length) : (rep z n)[i]? = z[i % z.length]? := by
  induction n generalizing i with
  | zero => simp at h
  | succ n ih =>
    rw [rep_succ]
    rw [Nat.add_mul, Nat.one_mul] at h
    by_cases hi : i < z.length
    · rw [List.getElem?_append_left hi, Nat.mod_eq_of_lt hi]
    · rw [List.getElem?_append_right (by omega), ih (i - z.length) (by omega)]
      congr 1
      rw [← Nat.mod_eq_sub_mod (by omega)]
theorem rep_plain {z : List Value} (h : plainL z = true) (n : Nat) : plainL (rep z n) = true := by
  have happ : ∀ (a b : List Value), plainL a = true → plainL b = true → plainL (a ++ b) = true := by
    intro a b ha hb
    induction a with
    | nil => exact hb
    | cons x xs ih =>
      simp [plainL] at ha ⊢
      exact ⟨ha.1, ih ha.2⟩
  induction n with
  | zero => rfl
  | succ n ih => rw [rep_succ]; exact happ _ _ h ih
theorem row_eq (z : List Value) (n c : Nat) (h : n = c * z.length) : ((Array.range n).map fun i => (Array.mk z)[i % (Array.mk z).size]!) = ⟨rep z c⟩ := by
  apply Array.ext'
  apply List.ext_getElem?
  intro i
  by_cases hi : i < n
  · rw [rep_get z c i (by omega)]
    have hz : 0 < z.length := by
      rcases Nat.eq_zero_or_pos z.length with e | e
      · rw [e] at h; omega
      · exact e
    have hm : i % z.length < z.length := Nat.mod_lt _ hz
    simp [hi, hm]
  · rw [List.getElem?_eq_none (by simp; omega), List.getElem?_eq_none (by rw [rep_length]; omega)]
theorem foldl_arrPut (off : Nat) : ∀ (vs : List Value) (k : Nat) (arr : Array Value), (vs.zipIdx k).foldl (fun cs (p : Value × Nat) => cs.setIfInBounds (off + p.2) p.1) arr = arrPut arr (off + k) vs
  | [], _, _ => rfl
  | v :: vs, k, arr => by
    rw [List.zipIdx_cons, List.foldl_cons, foldl_arrPut off vs (k + 1), arrPut]
    rfl
theorem spl_sound {ρ : Env} : ∀ {l : List Value} {i : Nat} {vs r l' vs' : List Value}, spl l i vs = some r → concL ρ l = some l' → concL ρ vs = some vs' →
    i + vs'.length ≤ l'.length ∧ ∃ r', concL ρ r = some r' ∧ arrPut ⟨l'⟩ i vs' = ⟨r'⟩ := by
  have hput : ∀ (vs' : List Value) (x : Value) (xs : List Value) (i : Nat), i + vs'.length ≤ xs.length → arrPut ⟨x :: xs⟩ (i + 1) vs' = ⟨x :: (arrPut ⟨xs⟩ i vs').toList⟩ := by
    intro vs' x xs i h
    apply Array.ext'
    apply List.ext_getElem?
    intro j
    have h1 := arrPut_get ⟨x :: xs⟩ (i + 1) vs' (by simp; omega) j
    have h2 := arrPut_get ⟨xs⟩ i vs' (by simpa using h) (j - 1)
    rw [← Array.getElem?_toList] at h1 h2
    rw [h1]
    cases j with
    | zero => simp
    | succ j =>
      simp only [Nat.add_sub_cancel] at h2
      rw [List.getElem?_cons_succ, h2]
      by_cases hc : i ≤ j ∧ j < i + vs'.length
      · rw [if_pos hc, if_pos (by omega)]; congr 1; omega
      · rw [if_neg hc, if_neg (by omega)]; simp
  intro l
  induction l with
  | nil =>
    intro i vs r l' vs' h hl hv
    cases i <;> cases vs <;> simp [spl] at h
    subst h
    simp [concL] at hl hv
    subst hl; subst hv
    exact ⟨by simp, [], by simp [concL], rfl⟩
  | cons x xs ih =>
    intro i vs r l' vs' h hl hv
    obtain ⟨x', xs', e1, e2, rfl⟩ := concL_cons hl
    cases i with
    | zero =>
      cases vs with
      | nil =>
        simp [spl] at h
        subst h
        simp [concL] at hv
        subst hv
        exact ⟨by simp, _, hl, rfl⟩
      | cons v vs =>
        obtain ⟨v', vs', e3, e4, rfl⟩ := concL_cons hv
        simp only [spl] at h
        split at h <;> cases h
        rename_i r h1
        obtain ⟨g1, r', g2, g3⟩ := ih h1 e2 e4
        refine ⟨by simp at g1 ⊢; omega, v' :: r', by simp [concL, e3, g2], ?_⟩
        show arrPut ((Array.mk (x' :: xs')).setIfInBounds 0 v') (0 + 1) vs' = _
        have : (Array.mk (x' :: xs')).setIfInBounds 0 v' = ⟨v' :: xs'⟩ := by simp
        rw [this, hput vs' v' xs' 0 (by simpa using g1), g3]
    | succ i =>
      simp only [spl] at h
      split at h <;> cases h
      rename_i r h1
      obtain ⟨g1, r', g2, g3⟩ := ih h1 e2 hv
      exact ⟨by simp; omega, x' :: r', by simp [concL, e1, g2], by rw [hput vs' x' xs' i g1, g3]⟩
inductive PartsC (ρ : Env) : List (Nat × Value) → List (Nat × Value) → Prop where
  | nil : PartsC ρ [] []
  | cons {i : Nat} {v v' : Value} {ps qs : List (Nat × Value)} : conc ρ v = some v' → PartsC ρ ps qs → PartsC ρ ((i, v) :: ps) ((i, v') :: qs)
theorem fill_sound {ρ : Env} {place : Nat → Option (Nat × Nat)} : ∀ {ps qs : List (Nat × Value)} {cells cells' r : List Value}, fillE place cells ps = some r → concL ρ cells = some cells' → PartsC ρ ps qs →
    ∃ r', concL ρ r = some r' ∧ Instr.fill place ⟨cells'⟩ qs = some ⟨r'⟩
  | [], _, cells, cells', r, h, hc, hp => by
    cases hp
    simp [fillE] at h
    subst h
    exact ⟨cells', hc, rfl⟩
  | (i, v) :: ps, _, cells, cells', r, h, hc, .cons (v' := v') (qs := qs) hv hp => by
    simp only [fillE] at h
    obtain ⟨p, h1, h2⟩ := ob_eq_some h
    obtain ⟨h3, h4⟩ := og_eq_some h2
    obtain ⟨c2, h5, h6⟩ := ob_eq_some h4
    have hv' := conc_cells hv
    have hl := concL_length hv'
    obtain ⟨g1, r1, g2, g3⟩ := spl_sound h5 hc hv'
    obtain ⟨r', f1, f2⟩ := fill_sound h6 g2 hp
    refine ⟨r', f1, ?_⟩
    have hsz := Nat.eq_of_beq_eq_true h3
    rw [Instr.fill, h1]
    have hcs : v'.cells.size = p.2 := by rw [cells_size, hl, hsz]
    have hle : ¬ (p.1 + v'.cells.size > (Array.mk cells').size) := by
      rw [cells_size]; simp; omega
    simp only [hcs, ne_eq, not_true_eq_false, decide_false, Bool.false_or, decide_eq_true_eq]
    rw [if_neg (by rw [← hcs]; exact hle)]
    have hfold : Array.foldl (fun (cs : Array Value) (x : Value × Nat) => cs.setIfInBounds (p.1 + x.2) x.1) (Array.mk cells') v'.cells.zipIdx = Array.mk r1 := by
      rw [← Array.foldl_toList, Array.toList_zipIdx, cells_toList]
      have := foldl_arrPut p.1 (cellsL v') 0 ⟨cells'⟩
      rw [this]
      exact g3
    exact (congrArg (fun a => Instr.fill place a qs) hfold).trans f2
section
variable {C : Ctx} (K : C.Ok) {ρ : Env} {H : Heap} {B : Nat} {w : World} {l : LV} {tm : T Value} {a : Act} {id : Nat}
theorem lookParts_sound (hr : Rel C ρ l tm a) : ∀ {ps : List (Nat × Operand)} {vs : List (Nat × Value)}, lookParts l tm ps = some vs → PartsC ρ vs (ps.map fun (i, x) => (i, a.eval x))
  | [], vs, h => by cases h; exact .nil
  | (i, x) :: ps, vs, h => by
    simp only [lookParts] at h
    obtain ⟨v, h1, h2⟩ := ob_eq_some h
    obtain ⟨us, h3, h4⟩ := ob_eq_some h2
    cases h4
    exact .cons (look_sound hr h1) (lookParts_sound hr h3)
include K
theorem fieldPlaces_run : ∀ {fs : List Field} {ps : List (Nat × Nat)}, fieldPlaces C fs = some ps → ∀ w, (fs.mapM (fun f => do pure (f.offset, ← sizeOf f.type)) : Sem (List (Nat × Nat))).run C.P w = .ok ps w
  | [], ps, h, w => by cases h; rfl
  | f :: fs, ps, h, w => by
    simp only [fieldPlaces] at h
    obtain ⟨i, h1, h2⟩ := ob_eq_some h
    obtain ⟨qs, h3, h4⟩ := ob_eq_some h2
    cases h4
    simp only [List.mapM_cons, Sem.run_bind, K.run_size h1, Result.andThen_ok, Sem.run_pure, fieldPlaces_run h3]
theorem build_sound {t : TypeId} {ps qs : List (Nat × Value)} {v : Value} (h : buildE C t ps = some v) (hp : PartsC ρ ps qs) (w : World) : Val C ρ w (Instr.build t ⟨qs⟩) v := by
  obtain ⟨i, h1, h2⟩ := ob_eq_some h
  obtain ⟨z, h3, h4⟩ := ob_eq_some h2
  obtain ⟨zv, g1, g2, g3⟩ := K.run_zero h1 h3 w
  have hzc : zv.cells = ⟨z⟩ := by apply Array.ext'; rw [cells_toList, g2]
  have hu := K.run_und' h1 w
  cases hs : asStruct i.d with
  | none =>
    rw [hs] at h4
    obtain ⟨p, h5, h6⟩ := ob_eq_some (o := asArr i.d) h4
    obtain ⟨j, h7, h8⟩ := ob_eq_some h6
    obtain ⟨r, h9, h10⟩ := ob_eq_some h8
    cases h10
    have hd := asArr_eq h5
    rw [hd] at hu
    obtain ⟨r', f1, f2⟩ := fill_sound h9 (concL_plain ρ g3) hp
    refine ⟨.agg ⟨r'⟩, ?_, conc_agg_mk f1⟩
    have hfun : (fun i => some (i * j.size, j.size)) = arrPlace j.size := rfl
    simp only [Instr.build, Sem.run_bind, g1, Result.andThen_ok, hu, K.run_size h7, hzc, hfun, f2, Sem.run_pure]
  | some fs =>
    rw [hs] at h4
    obtain ⟨ps', h5, h6⟩ := ob_eq_some (o := fieldPlaces C fs) h4
    obtain ⟨r, h9, h10⟩ := ob_eq_some h6
    cases h10
    have hd := asStruct_eq hs
    rw [hd] at hu
    obtain ⟨r', f1, f2⟩ := fill_sound h9 (concL_plain ρ g3) hp
    refine ⟨.agg ⟨r'⟩, ?_, conc_agg_mk f1⟩
    have hpl : ((Array.mk fs).mapM (fun f => do pure (f.offset, ← sizeOf f.type)) : Sem (Array (Nat × Nat))).run C.P w = .ok ⟨ps'⟩ w := by
      rw [Array.mapM_eq_mapM_toList]
      simp only [Sem.run_map, fieldPlaces_run K h5 w, Result.andThen_ok]
    have hfun : (fun (x : Nat) => (Array.mk ps')[x]?) = fun (n : Nat) => ps'[n]? := by funext n; simp
    simp only [Instr.build, Sem.run_bind, g1, Result.andThen_ok, hu, hpl, hzc, hfun, f2, Sem.run_pure]
theorem opBuild_sound (R : Rep ρ H B w) (hr : Rel C ρ l tm a) {t : TypeId} {ps : Array (Nat × Operand)} {r : ORes} (h : opBuild t ps C l tm id H = some r) :
    Post C id ρ H B w (do pure (.value (← Instr.build t (ps.map fun (i, x) => (i, a.eval x))))) r := by
  obtain ⟨v, h1, rfl⟩ := wrap1_eq h
  obtain ⟨vs, h2, h3⟩ := ob_eq_some h1
  have hp := lookParts_sound hr h2
  have e : (ps.map fun (i, x) => (i, a.eval x)) = ⟨ps.toList.map fun (i, x) => (i, a.eval x)⟩ := by apply Array.ext'; simp
  rw [e]
  exact Val.post R (build_sound K h3 hp w)
theorem opBuildSlice_sound (R : Rep ρ H B w) (hr : Rel C ρ l tm a) (hid : ρ id = none) {t : TypeId} {n : Nat} {ps : Array (Nat × Operand)} {r : ORes} (h : opBuildSlice t n ps C l tm id H = some r) :
    Post C id ρ H B w (do pure (.value (← Instr.buildSlice t n (ps.map fun (i, x) => (i, a.eval x))))) r := by
  obtain ⟨vs, h2, h3⟩ := ob_eq_some h
  obtain ⟨d, h4, h5⟩ := ob_eq_some h3
  obtain ⟨e, h6, h7⟩ := ob_eq_some h5
  obtain ⟨j, h8, h9⟩ := ob_eq_some h7
  obtain ⟨z, h10, h11⟩ := ob_eq_some h9
  obtain ⟨h12, h13⟩ := og_eq_some h11
  obtain ⟨h14, h15⟩ := og_eq_some h13
  obtain ⟨cs, h16, h17⟩ := ob_eq_some h15
  cases h17
  have := asSl_eq h6
  subst this
  have hp := lookParts_sound hr h2
  have e0 : (ps.map fun (i, x) => (i, a.eval x)) = ⟨ps.toList.map fun (i, x) => (i, a.eval x)⟩ := by apply Array.ext'; simp
  rw [e0]
  obtain ⟨zv, g1, g2, g3⟩ := K.run_zero h8 h10 w
  have hzl := Nat.eq_of_beq_eq_true h14
  obtain ⟨r', f1, f2⟩ := fill_sound h16 (concL_plain ρ (rep_plain g3 n)) hp
  have hfl := concL_length f1
  obtain ⟨k1, k2⟩ := newCells_sound (H := H) (id := id) R hid f1 ⟨j.size, e⟩ 0 rfl (Grow.alloc w (.cells ⟨r'⟩ e)) (fun i x hx => by simpa using hx) (by simp [hfl]) (fun i _ hi => by omega)
  refine ⟨_, .slice (some ⟨w.heap.size, 0, none⟩) n n, _, ?_, ?_, k1, k2⟩
  · have hzc : zv.cells = ⟨z⟩ := by apply Array.ext'; rw [cells_toList, g2]
    have hle : ¬ (n * j.size > 2 ^ 24) := by have := Nat.le_of_ble_eq_true h12; simp at this ⊢; exact this
    have hfun : (fun i => some (i * j.size, j.size)) = arrPlace j.size := rfl
    have hrow : ∀ zz : Array Value, (n * j.size ≠ 0 → zz = ⟨z⟩) → ((Array.range (n * j.size)).map fun x => zz[x % zz.size]!) = ⟨rep z n⟩ := by
      intro zz hz
      by_cases h0 : n * j.size = 0
      · rw [h0]
        have : rep z n = [] := by
          have := rep_length z n
          rw [hzl, h0] at this
          exact List.length_eq_zero_iff.1 this
        rw [this]
        simp
      · rw [hz h0]
        exact row_eq z (n * j.size) n (by rw [hzl])
    simp only [Instr.buildSlice, Sem.run_bind, K.run_und h4 w, Result.andThen_ok, K.run_size h8, hle, if_false, hfun, Sem.run_ite]
    by_cases h0 : n * j.size = 0
    · rw [if_pos h0]
      simp only [hrow #[] (fun e => absurd h0 e), f2, newRow, Sem.run_bind, run_newObj, Sem.run_pure, Result.andThen_ok]
      rfl
    · rw [if_neg h0]
      simp only [Sem.run_bind, g1, Result.andThen_ok, hrow zv.cells (fun _ => hzc), f2, newRow, run_newObj, Sem.run_pure]
      rfl
  · simp [conc, concSlice, Env.put_same]
theorem opMakeSlice_sound (R : Rep ρ H B w) (hr : Rel C ρ l tm a) (hid : ρ id = none) {t : TypeId} {n c : Operand} {r : ORes} (h : opMakeSlice t n c C l tm id H = some r) :
    Post C id ρ H B w (do pure (.value (← Instr.makeSlice t (a.eval n) (a.eval c)))) r := by
  obtain ⟨nv, h1, h2⟩ := ob_eq_some h
  obtain ⟨cv, h3, h4⟩ := ob_eq_some h2
  obtain ⟨d, h5, h6⟩ := ob_eq_some h4
  obtain ⟨e, h7, h8⟩ := ob_eq_some h6
  obtain ⟨j, h9, h10⟩ := ob_eq_some h8
  obtain ⟨n', h11, h12⟩ := ob_eq_some h10
  obtain ⟨c', h13, h14⟩ := ob_eq_some h12
  obtain ⟨z, h15, h16⟩ := ob_eq_some h14
  obtain ⟨h17, h18⟩ := og_eq_some h16
  obtain ⟨h19, h20⟩ := og_eq_some h18
  obtain ⟨h21, h22⟩ := og_eq_some h20
  cases h22
  have := asSl_eq h7
  subst this
  obtain ⟨k1, rfl⟩ := asNat_eq h11
  obtain ⟨k2, rfl⟩ := asNat_eq h13
  have en := look_sound hr h1
  have ec := look_sound hr h3
  simp [conc] at en ec
  obtain ⟨zv, g1, g2, g3⟩ := K.run_zero h9 h15 w
  obtain ⟨info, i1, i2, i3, _⟩ := K.run_info h9 w
  have hzl := Nat.eq_of_beq_eq_true h21
  have hnc : n' ≤ c' := Nat.le_of_ble_eq_true h17
  have hb : c' * (j.bytes + 1) ≤ 1073741824 := Nat.le_of_ble_eq_true h19
  have hb1 : c' ≤ 1073741824 := Nat.le_trans (Nat.le_mul_of_pos_right _ (Nat.succ_pos _)) hb
  have hb2 : c' * j.bytes ≤ 1073741824 := Nat.le_trans (Nat.mul_le_mul_left _ (Nat.le_succ _)) hb
  have hb3 : j.bytes * c' ≤ 1073741824 := by rw [Nat.mul_comm]; exact hb2
  have wn : IntKind.i64.wrap (n' : Int) = n' := wrap_fit .i64 n' (by show n' ≤ 9223372036854775807; omega)
  have wc : IntKind.i64.wrap (c' : Int) = c' := wrap_fit .i64 c' (by show c' ≤ 9223372036854775807; omega)
  obtain ⟨k1', k2'⟩ := newCells_sound (H := H) (id := id) R hid (concL_plain ρ (rep_plain g3 c')) ⟨j.size, e⟩ 0 rfl (Grow.alloc w (.cells ⟨rep z c'⟩ e)) (fun i x hx => by simpa using hx) (by simp) (fun i _ hi => by omega)
  refine ⟨_, .slice (some ⟨w.heap.size, 0, none⟩) n' c', _, ?_, ?_, k1', k2'⟩
  · have hzc : zv.cells = ⟨z⟩ := by apply Array.ext'; rw [cells_toList, g2]
    have hlarge : (decide ((c' : Int) < 0) || decide ((j.bytes : Int) * (c' : Int) > 2 ^ 48)) = false := by
      have : (j.bytes : Int) * (c' : Int) ≤ 1073741824 := by
        have : ((j.bytes * c' : Nat) : Int) ≤ 1073741824 := by omega
        simpa using this
      simp
      omega
    have hrow : ∀ zz : Array Value, (c' * j.size ≠ 0 → zz = ⟨z⟩) → ((Array.range (c' * j.size)).map fun x => zz[x % zz.size]!) = ⟨rep z c'⟩ := by
      intro zz hz
      by_cases h0 : c' * j.size = 0
      · rw [h0]
        have : rep z c' = [] := by
          have := rep_length z c'
          rw [hzl, h0] at this
          exact List.length_eq_zero_iff.1 this
        rw [this]
        simp
      · rw [hz h0]
        exact row_eq z (c' * j.size) c' (by rw [hzl])
    have hcond : (decide ((c' : Int) < 0) || decide ((j.bytes : Int) * (c' : Int) > 2 ^ 48) || decide ((n' : Int) < 0) || decide ((n' : Int) > c')) = false := by
      rw [hlarge]
      simp
      omega
    rw [← en, ← ec]
    simp only [Instr.makeSlice, Sem.run_bind, K.run_und h5 w, Result.andThen_ok, Go.asInt, asIntOf, pure_bind, i1, i3, wn, wc]
    simp only [hcond, Bool.false_eq_true, if_false, Sem.run_bind, run_askRoom, Result.andThen_ok, K.run_size h9, Int.toNat_natCast, Sem.run_ite]
    by_cases h0 : c' * j.size = 0
    · rw [if_pos h0]
      simp only [hrow #[] (fun e => absurd h0 e), newRow, Sem.run_bind, run_newObj, Sem.run_pure, Result.andThen_ok]
      rfl
    · rw [if_neg h0]
      simp only [Sem.run_bind, g1, Result.andThen_ok, hrow zv.cells (fun _ => hzc), newRow, run_newObj, Sem.run_pure]
      rfl
  · simp [conc, concSlice, Env.put_same]
end
end Go.Ax

namespace Go.Ax
theorem cell?_heap {w w2 : World} (h : w2.heap = w.heap) (a : Addr) : w2.cell? a = w.cell? a := by unfold World.cell?; rw [h]
theorem nextcap_le {need old : Nat} (h : old < need) : Builtin.nextslicecap need old ≤ 2 * need := nextslicecap_le h
section
variable {C : Ctx} (K : C.Ok) {ρ : Env} {H : Heap} {B : Nat} {w : World} {l : LV} {tm : T Value} {a : Act} {id : Nat}
theorem elems_sound (R : Rep ρ H B w) {size n : Nat} {x x' : Value} {vs : List Value} (h : elemsE H size x n = some vs) (hx : conc ρ x = some x') :
    ∃ vs', concL ρ vs = some vs' ∧ ∀ (P : Program) (w2 : World), w2.heap = w.heap → (Builtin.firstCells size n x').run P w2 = .ok ⟨vs'⟩ w2 := by
  unfold elemsE at h
  split at h
  · split at h <;> cases h
    simp [conc] at hx
    subst hx
    exact ⟨[], by simp [concL], fun P w2 _ => run_firstCells_none ..⟩
  · rename_i b off sp _ _
    obtain ⟨lo, vs', e1, e2, e3, e4⟩ := rdN_sound R h
    refine ⟨vs', e2, fun P w2 hw => ?_⟩
    have hx' : ∃ n2 c, x' = .slice (some ⟨lo.blk, lo.sh + off, none⟩) n2 c := by
      cases sp <;> simp [conc, concSlice, e1] at hx <;> exact ⟨_, _, hx.symm⟩
    obtain ⟨n2, c, rfl⟩ := hx'
    exact run_firstCells_some w2 size n _ n2 c vs' e3 (fun j x hj => by rw [addr_add, cell?_heap hw]; exact e4 j x hj)
  · rename_i s
    cases h
    simp [conc] at hx
    subst hx
    refine ⟨_, concL_plain ρ (bytesOf_plain _), fun P w2 _ => ?_⟩
    simp only [Builtin.firstCells, Sem.run_pure]
    congr 1
    apply Array.ext'
    rw [bytesOf_eq]
    have : ((ByteArray.mk ⟨s⟩).extract 0 n).data.toList = s.take n := by
      rw [ByteArray.data_extract]
      simp [List.extract_eq_take_drop]
    simp
  · cases h
theorem len_conc {P : Program} {x x' : Value} {n : Nat} (h : lenE x = some n) (hx : conc ρ x = some x') (w : World) : (Builtin.lenOf x').run P w = .ok n w := by
  unfold lenE at h
  split at h <;> cases h
  · obtain ⟨_, _, rfl, _⟩ := conc_slice_shape hx
    rfl
  · simp [conc] at hx
    subst hx
    rfl
theorem run_append_in {P : Program} {w : World} {st xt ty e : TypeId} {xd : TypeDesc} {size : Nat} (ht : P.underlying st = some (.slice e)) (hx : P.underlying xt = some xd) (hn : notInt xd = true)
    (hs : ∀ w, (sizeOf e).run P w = .ok size w) {base : Option Addr} {sLen sCap n : Nat} {x' : Value} (hl : ∀ w, (Builtin.lenOf x').run P w = .ok n w) (hroom : sLen + n ≤ sCap) {new : List Value}
    (hf : ∀ w2 : World, w2.heap = w.heap → (Builtin.firstCells size n x').run P w2 = .ok ⟨new⟩ w2) :
    (Builtin.append_ #[st, xt] ty #[.slice base sLen sCap, x']).run P w =
      (match base with
        | some a => (storeCells (a.add (sLen * size)) new).run P w
        | none => .ok () w).andThen fun _ w => .ok (.slice base (sLen + n) sCap) w := by
  have hf0 := hf w rfl
  cases xd <;> first
    | (simp [notInt] at hn; done)
    | (simp only [Builtin.append_, List.getElem?_toArray, List.getElem?_cons_zero, List.getElem?_cons_succ, Sem.run_bind, run_underlying ht, run_underlying hx, Result.andThen_ok, hs, Sem.run_pure, Bool.false_eq_true, if_false,
        hl, if_pos hroom, Bool.not_false, if_true, hf0]
       cases base <;> simp)
theorem run_append_out {P : Program} {w : World} {st xt ty e : TypeId} {xd : TypeDesc} {info : TypeInfo} {z : Value} (ht : P.underlying st = some (.slice e)) (hx : P.underlying xt = some xd) (hn : notInt xd = true)
    (hi : P.info? e = some info) (hz : info.zero = some z) {base : Option Addr} {sLen sCap n : Nat} {x' : Value} (hl : ∀ w, (Builtin.lenOf x').run P w = .ok n w) (hroom : sCap < sLen + n)
    (hbig : (sLen + n) * (info.bytes + 1) ≤ 35184372088832) {old new : List Value}
    (hf : ∀ w2 : World, w2.heap = w.heap → (Builtin.firstCells info.size n x').run P w2 = .ok ⟨new⟩ w2)
    (ho : ∀ w2 : World, w2.heap = w.heap → (Builtin.firstCells info.size sLen (.slice base sLen sCap)).run P w2 = .ok ⟨old⟩ w2) :
    ∃ cap, sLen + n ≤ cap ∧ (Builtin.append_ #[st, xt] ty #[.slice base sLen sCap, x']).run P w =
      .ok (.slice (some ⟨w.heap.size, 0, none⟩) (sLen + n) cap) (w.drew.alloc (.cells (⟨old⟩ ++ ⟨new⟩ ++ Builtin.zeroCells z.cells (cap - (sLen + n))) e)) := by
  have hf0 := hf w.drew rfl
  have ho0 := ho w.drew rfl
  have hneed : sLen + n ≤ 35184372088832 := Nat.le_trans (Nat.le_mul_of_pos_right _ (Nat.succ_pos _)) hbig
  have hnb : (sLen + n) * info.bytes ≤ 35184372088832 := Nat.le_trans (Nat.mul_le_mul_left _ (Nat.le_succ _)) hbig
  have hfit : ¬ (Builtin.nextslicecap (sLen + n) sCap * info.bytes > 2 ^ 48) := by
    have h1 := nextcap_le hroom
    have h2 : Builtin.nextslicecap (sLen + n) sCap * info.bytes ≤ 2 * (sLen + n) * info.bytes := Nat.mul_le_mul_right _ h1
    rw [Nat.mul_assoc] at h2
    simp
    omega
  refine ⟨grownCap w (sLen + n) sCap e, by unfold grownCap; simp [Question.cut], ?_⟩
  have hno : ¬ (sLen + n ≤ sCap) := by omega
  have h63 : ¬ (((sLen + n : Nat) : Int) > IntKind.i64.max ∧ (False ∨ info.bytes = 0)) := by
    rw [IntKind.max_i64]
    omega
  have hsz : ∀ w, (sizeOf e).run P w = .ok info.size w := fun w => by simp [sizeOf, typeInfo, hi]
  have hti : ∀ w, (typeInfo e).run P w = .ok info w := fun w => by simp [typeInfo, hi]
  have hzv : ∀ w, (zeroValue e).run P w = .ok z w := fun w => by simp [zeroValue, hti, hz]
  cases xd <;> first
    | (simp [notInt] at hn; done)
    | (simp only [Builtin.append_, List.getElem?_toArray, List.getElem?_cons_zero, List.getElem?_cons_succ, Sem.run_bind, run_underlying ht, run_underlying hx, Result.andThen_ok, hsz, Sem.run_pure, Bool.false_eq_true, if_false,
        hl, if_neg hno, hti, h63, hfit, run_choose, Question.forced, run_askRoom, Bool.not_false, if_true, World.drew_eq, ho0, hf0, hzv, newRow, run_newObj]
       rfl)
theorem conc_sv {b off len cap : Nat} {o : Bool} {lo : Loc} (h : ρ b = some lo) : conc ρ (SV.mk b off o len cap).val = some (.slice (some ⟨lo.blk, lo.sh + off, none⟩) len (openCap o cap lo.ext)) := by
  cases o <;> simp [SV.val, conc, concSlice, h, openCap]
theorem concL_ones {vs vs' : List Value} (h : concL ρ vs = some vs') (ho : ones vs = true) : ∀ x ∈ vs', one x = true := by
  intro x hx
  have hlen := concL_length h
  obtain ⟨j, hj⟩ := List.getElem?_of_mem hx
  have hjl : j < vs.length := by
    rw [← hlen]
    rcases Nat.lt_or_ge j vs'.length with g | g
    · exact g
    · rw [List.getElem?_eq_none g] at hj; cases hj
  obtain ⟨u, u', a1, a2, a3⟩ := concL_get h hjl
  rw [a2] at hj
  cases hj
  rw [conc_one a3]
  exact (ones_iff _).1 ho u (List.mem_of_getElem? a1)
theorem wrN_sound (R : Rep ρ H B w) {b i : Nat} {vs vs' : List Value} {H' : Heap} (h : wrN H b i vs = some H') (hv : concL ρ vs = some vs') (P : Program) (x : Nat) {lo : Loc} (hl : ρ b = some lo) (o : Nat) (ho : o = lo.sh + i) :
    ∃ w', (storeCells ⟨lo.blk, o, none⟩ vs').run P w = .ok () w' ∧ Rep ρ H' B w' ∧ Stp x ρ H w ρ H' w' := by
  obtain ⟨k, h7, h8⟩ := ob_eq_some h
  obtain ⟨c, h9, h10⟩ := ob_eq_some h8
  obtain ⟨g1, h11⟩ := og_eq_some h10
  obtain ⟨g2, h12⟩ := og_eq_some h11
  obtain ⟨g3, h13⟩ := og_eq_some h12
  cases h13
  have := asRw_eq h9
  subst this
  obtain ⟨l2, arr, el, flo, fhi, e1, e2, e3, e4, e5, e6⟩ := wr_sound R h7 (Nat.le_of_ble_eq_true g1) (Nat.le_of_ble_eq_true g2) hv x
  rw [hl] at e1
  cases e1
  have hlen := concL_length hv
  subst ho
  exact ⟨_, run_storeCells P lo.blk el flo fhi vs' w (lo.sh + i) 0 arr e2 (concL_ones hv g3) (by rw [hlen]; simpa using e3) (by rw [hlen]; simpa using e4), by simpa using e5, by simpa using e6⟩
theorem zeroCells_size (z : Array Value) (n : Nat) : (Builtin.zeroCells z n).size = n * z.size := by simp [Builtin.zeroCells]
theorem grown_sound (R : Rep ρ H B w) (hid : ρ id = none) {k cap size : Nat} {vs vs' : List Value} (hv : concL ρ vs = some vs') (_ : vs.length = k * size) {z : Array Value} (hz : z.size = size) (hk : k ≤ cap) {e : TypeId} {s : Sem Value} {P : Program}
    (hrun : s.run P w = .ok (.slice (some ⟨w.heap.size, 0, none⟩) k cap) (w.drew.alloc (.cells (⟨vs'⟩ ++ Builtin.zeroCells z (cap - k)) e))) (hP : P = C.P) :
    Post C id ρ H B w (do pure (.value (← s))) (.val (.slice (some ⟨id, 0, some 0⟩) k k) (newCells H id vs ⟨size, e⟩)) := by
  subst hP
  have hlen := concL_length hv
  have hg : Grow w (w.drew.alloc (.cells (⟨vs'⟩ ++ Builtin.zeroCells z (cap - k)) e)) (.cells (⟨vs'⟩ ++ Builtin.zeroCells z (cap - k)) e) := Grow.push rfl rfl rfl rfl
  obtain ⟨k1, k2⟩ := newCells_sound (H := H) (id := id) R hid hv ⟨size, e⟩ (cap - k) rfl hg
    (fun i x hx => by
      have hi : i < vs'.length := by
        rcases Nat.lt_or_ge i vs'.length with g | g
        · exact g
        · rw [List.getElem?_eq_none g] at hx; cases hx
      rw [Array.getElem?_append_left (by simpa using hi)]
      simpa using hx)
    (by rw [Array.size_append, zeroCells_size, hz]; simp [hlen]) (fun i _ hi => by omega)
  refine ⟨_, _, _, by rw [Sem.run_bind, hrun]; rfl, ?_, k1, k2⟩
  simp only [conc, concSlice, Env.put_same]
  congr 2
  omega
include K
theorem append_sound (R : Rep ρ H B w) (hid : ρ id = none) {st xt ty : TypeId} {s x s' x' : Value} {r : ORes} (h : appendE C H id st xt s x = some r) (hs : conc ρ s = some s') (hx : conc ρ x = some x') :
    Post C id ρ H B w (do pure (.value (← Builtin.append_ #[st, xt] ty #[s', x']))) r := by
  obtain ⟨d, a1, h⟩ := ob_eq_some h
  obtain ⟨e, a2, h⟩ := ob_eq_some h
  obtain ⟨j, a3, h⟩ := ob_eq_some h
  obtain ⟨xd, a4, h⟩ := ob_eq_some h
  obtain ⟨a5, h⟩ := og_eq_some h
  obtain ⟨a6, h⟩ := og_eq_some h
  obtain ⟨z, a7, h⟩ := ob_eq_some h
  obtain ⟨a8, h⟩ := og_eq_some h
  obtain ⟨n, a9, h⟩ := ob_eq_some h
  obtain ⟨new, a10, h⟩ := ob_eq_some h
  obtain ⟨a11, h⟩ := og_eq_some h
  obtain ⟨sv, a12, h⟩ := ob_eq_some h
  have := asSl_eq a2
  subst this
  have hut := K.und a1
  have hux := K.und a4
  have hsz1 : 1 ≤ j.size := Nat.le_of_ble_eq_true a6
  have hzl := Nat.eq_of_beq_eq_true a8
  have hnl : new.length = n * j.size := Nat.eq_of_beq_eq_true a11
  obtain ⟨info, i1, _, _, i4, i5, _, i7, _⟩ := K.tys e j a3
  obtain ⟨hzp, zv, i8, i9⟩ := i7 z a7
  have hzs : zv.cells.size = j.size := by rw [cells_size, i9, hzl]
  have hlen : ∀ w, (Builtin.lenOf x').run C.P w = .ok n w := fun w => len_conc a9 hx w
  obtain ⟨new', b1, b2⟩ := elems_sound R a10 hx
  have hsv := asSlice_conc a12 hs
  have hssz : ∀ w, (sizeOf e).run C.P w = .ok j.size w := fun w => K.run_size a3 w
  have b3 := fun w2 hw => b2 C.P w2 hw
  have hlen' := concL_length b1
  cases sv with
  | nil =>
    replace hsv : s' = .slice none 0 0 := hsv
    subst hsv
    simp only [app3] at h
    split at h
    · cases h
      refine Val.post R ⟨.slice none 0 0, ?_, by simp [conc]⟩
      rw [run_append_in hut hux a5 hssz hlen (Nat.le_refl _) b3]
      rfl
    · obtain ⟨c1, h⟩ := og_eq_some h
      obtain ⟨c2, h⟩ := og_eq_some h
      cases h
      have hnpos : 0 < n := by
        rcases Nat.eq_zero_or_pos n with e | e
        · exact absurd e (by assumption)
        · exact e
      have hfit : n * (j.bytes + 1) ≤ 35184372088832 := Nat.le_of_ble_eq_true c1
      obtain ⟨cap, f1, f2⟩ := run_append_out (w := w) (ty := ty) (base := none) (sLen := 0) (sCap := 0) hut hux a5 i1 i8 hlen (by omega) (by rw [← i5, Nat.zero_add]; exact hfit) (old := []) (fun w2 hw => by rw [← i4]; exact b3 w2 hw) (fun w2 _ => run_firstCells_none ..)
      refine grown_sound R hid b1 hnl hzs (k := n) (cap := cap) (by omega) (e := e) (P := C.P) ?_ rfl
      rw [f2]
      simp
  | mk b off o len cap =>
    obtain ⟨lo, hlo, hs'⟩ := hsv
    subst hs'
    simp only [app3, natF_eq] at h
    split at h
    · rename_i hroom
      have hroom : len + n ≤ cap := Nat.le_of_ble_eq_true hroom
      have hroom' : len + n ≤ openCap o cap lo.ext := by cases o <;> simp [openCap] <;> omega
      split at h
      · cases h
        have hnew0 : new' = [] := by
          have : new'.length = 0 := by rw [hlen', hnl]; simp
          exact List.length_eq_zero_iff.1 this
        subst hnew0
        refine Val.post R ⟨_, ?_, conc_sv hlo⟩
        rw [run_append_in hut hux a5 hssz hlen hroom' b3]
        simp [storeCells]
      · obtain ⟨H', c1, h⟩ := ob_eq_some h
        cases h
        obtain ⟨w', d1, d2, d3⟩ := wrN_sound R c1 b1 C.P id hlo (lo.sh + off + len * j.size) (by show _ = lo.sh + (off + len * j.size); omega)
        refine ⟨ρ, _, w', ?_, conc_sv hlo, d2, d3⟩
        rw [Sem.run_bind, run_append_in hut hux a5 hssz hlen hroom' b3]
        simp only [addr_add, d1]
        rfl
    · rename_i hroom
      have hroom : cap < len + n := by
        rcases Nat.lt_or_ge cap (len + n) with g | g
        · exact g
        · have : Nat.ble (Nat.add len n) cap = true := Nat.ble_eq_true_of_le g
          rw [this] at hroom; cases hroom
      obtain ⟨c1, h⟩ := og_eq_some h
      obtain ⟨old, c2, h⟩ := ob_eq_some h
      have hfit : (len + n) * (j.bytes + 1) ≤ 35184372088832 := Nat.le_of_ble_eq_true c1
      obtain ⟨lo2, old', e1, e2, e3, e4⟩ := rdN_sound R c2
      rw [hlo] at e1
      cases e1
      have e3 : old'.length = len * j.size := e3
      have hol : old.length = len * j.size := by rw [← e3, concL_length e2]
      have hold : ∀ (c : Nat) (w2 : World), w2.heap = w.heap → (Builtin.firstCells info.size len (.slice (some ⟨lo.blk, lo.sh + off, none⟩) len c)).run C.P w2 = .ok ⟨old'⟩ w2 := by
        intro c w2 hw
        rw [← i4]
        exact run_firstCells_some w2 j.size len _ len c old' e3 (fun i x hi => by rw [addr_add, cell?_heap hw]; exact e4 i x hi)
      have hcat := concL_append e2 b1
      have hcl : (old ++ new).length = (len + n) * j.size := by rw [List.length_append, hol, hnl, Nat.add_mul]
      cases o with
      | false =>
        obtain ⟨c3, h⟩ := og_eq_some h
        obtain ⟨c4, h⟩ := og_eq_some h
        cases h
        obtain ⟨cap2, f1, f2⟩ := run_append_out (w := w) (ty := ty) (base := some ⟨lo.blk, lo.sh + off, none⟩) (sLen := len) (sCap := cap) hut hux a5 i1 i8 hlen hroom (by rw [← i5]; exact hfit) (fun w2 hw => by rw [← i4]; exact b3 w2 hw) (fun w2 hw => hold cap w2 hw)
        refine grown_sound R hid hcat hcl hzs (k := len + n) (cap := cap2) f1 (e := e) (P := C.P) ?_ rfl
        show (Builtin.append_ #[st, xt] ty #[.slice (some ⟨lo.blk, lo.sh + off, none⟩) len cap, x']).run C.P w = _
        rw [f2]
        simp
      | true =>
        obtain ⟨k, c3, h⟩ := ob_eq_some h
        obtain ⟨c, c4, h⟩ := ob_eq_some h
        obtain ⟨c5, h⟩ := og_eq_some h
        obtain ⟨c6, h⟩ := og_eq_some h
        obtain ⟨c6', h⟩ := og_eq_some h
        obtain ⟨c7, h⟩ := og_eq_some h
        obtain ⟨c8, h⟩ := og_eq_some h
        obtain ⟨c9, h⟩ := og_eq_some h
        simp only [natF_eq] at h
        cases h
        have := asRw_eq c4
        subst this
        have hend : off + cap * j.size = c.n := Nat.eq_of_beq_eq_true c5
        have hesz : c.esz.n = j.size := Nat.eq_of_beq_eq_true c6
        have hel : c.esz.el = e := Nat.eq_of_beq_eq_true c6'
        have hfrz : c.frz ≤ off + len * j.size := Nat.le_of_ble_eq_true c7
        let V : T Value := Bool.rec (motive := fun _ => T Value) (T.ofList (old ++ new)) (c.vals.put (Nat.mul len j.size) new) (Nat.beq off 0)
        have hV : ∀ i, i < (len + n) * j.size → V.get i = (old ++ new)[i]? := by
          intro i hi
          show T.get (Bool.rec (motive := fun _ => T Value) (T.ofList (old ++ new)) (c.vals.put (Nat.mul len j.size) new) (Nat.beq off 0)) i = _
          cases ho : Nat.beq off 0 with
          | false => exact T.get_ofList _ _
          | true =>
            have ho := Nat.eq_of_beq_eq_true ho
            subst ho
            show (c.vals.put (len * j.size) new).get i = _
            rw [T.get_put]
            by_cases hil : i < len * j.size
            · rw [if_neg (by omega), List.getElem?_append_left (by omega)]
              obtain ⟨kk, hkk, g0⟩ := ob_eq_some c2
              obtain ⟨p, hp, g1⟩ := ob_eq_some g0
              obtain ⟨_, g2⟩ := og_eq_some g1
              rw [c3] at hkk
              cases hkk
              have hpv : p.1 = c.vals := by cases c; simp [CB.blk, asCells] at hp; rw [← hp]; rfl
              have := T.take_get _ _ _ _ g2 i hil
              rw [hpv, Nat.zero_add] at this
              exact this
            · have hmul : (len + n) * j.size = len * j.size + n * j.size := Nat.add_mul _ _ _
              rw [if_pos (by omega), List.getElem?_append_right (by omega), hol]
        by_cases hin : len + n ≤ cap + lo.ext
        · have hroom' : len + n ≤ openCap true cap lo.ext := hin
          have hmul : (len + n) * c.esz.n = len * c.esz.n + n * c.esz.n := Nat.add_mul _ _ _
          obtain ⟨arr, el, flo, fhi, g1, g2, g3, g4, g5⟩ := fork_in (id := id) (len := len) (cap := cap) (k := len + n) (vals := V) (old := old) R hid c3 hlo (by rw [hesz]; exact c2) b1 (by rw [hesz, hnl, Nat.add_mul]) (by rw [hesz]; exact hsz1) (by
              rcases Nat.lt_or_ge cap len with g | g
              · have h1 : c.n ≤ off + len * j.size := by rw [← hend]; have := Nat.mul_le_mul_right j.size (Nat.le_of_lt g); omega
                obtain ⟨kk, hkk, q0⟩ := ob_eq_some c2
                obtain ⟨p, hp, q1⟩ := ob_eq_some q0
                obtain ⟨q2, _⟩ := og_eq_some q1
                rw [c3] at hkk
                cases hkk
                have hpv : p.2 = c.n := by cases c; simp [CB.blk, asCells] at hp; rw [← hp]; rfl
                have q2 : off + len * j.size ≤ p.2 := Nat.le_of_ble_eq_true q2
                have h3 : cap * j.size < len * j.size := Nat.mul_lt_mul_of_pos_right g hsz1
                omega
              · exact g) hroom (by rw [hesz]; exact hend) (by rw [hesz]; exact hfrz) hin (by rw [hesz]; exact hV)
          rw [hesz] at g2 g3 g4 g5
          have hst := run_storeCells C.P lo.blk el flo fhi new' w (lo.sh + off + len * j.size) 0 arr g1 (concL_ones b1 c8) (by
              rw [hlen', hnl]
              have : (len + n) * j.size = len * j.size + n * j.size := Nat.add_mul _ _ _
              omega) (by rw [hlen']; simpa using g3)
          unfold forkH at g4 g5
          refine ⟨_, .slice (some ⟨lo.blk, lo.sh + off, none⟩) (len + n) (cap + lo.ext), _, ?_, ?_, g4, g5⟩
          · rw [Sem.run_bind, run_append_in hut hux a5 hssz hlen hroom' b3]
            simp only [addr_add]
            rw [hst]
            rfl
          · simp only [conc, concSlice, Env.put_same]
            congr 2
            show len + n + (cap + lo.ext - (len + n)) = cap + lo.ext
            omega
        · obtain ⟨cap2, f1, f2⟩ := run_append_out (w := w) (ty := ty) (base := some ⟨lo.blk, lo.sh + off, none⟩) (sLen := len) (sCap := cap + lo.ext) hut hux a5 i1 i8 hlen (by omega) (by rw [← i5]; exact hfit) (fun w2 hw => by rw [← i4]; exact b3 w2 hw) (fun w2 hw => hold _ w2 hw)
          have hg : Grow w (w.drew.alloc (.cells (⟨old'⟩ ++ ⟨new'⟩ ++ Builtin.zeroCells zv.cells (cap2 - (len + n))) e)) (.cells (⟨old'⟩ ++ ⟨new'⟩ ++ Builtin.zeroCells zv.cells (cap2 - (len + n))) e) := Grow.push rfl rfl rfl rfl
          have hcl' := concL_length hcat
          obtain ⟨g4, g5⟩ := fork_out (id := id) R hid c3 (c.pos + off + len * j.size) (c.pos + off + (len + n) * j.size) hcat V (by rw [hcl]; exact hV) (c.pos + off) (c.frz - off) (cap2 - (len + n)) hel.symm hg
            (fun i x hx => by
              have hi : i < (old' ++ new').length := by
                rcases Nat.lt_or_ge i (old' ++ new').length with g | g
                · exact g
                · rw [List.getElem?_eq_none g] at hx; cases hx
              rw [Array.getElem?_append_left (by simpa using hi)]
              simpa using hx)
            (by rw [Array.size_append, zeroCells_size, hzs, hesz]; simp at hcl' ⊢; omega) (fun i _ hi => by omega)
          rw [hcl] at g4 g5
          unfold forkH at g4 g5
          refine ⟨_, .slice (some ⟨w.heap.size, 0, none⟩) (len + n) cap2, _, ?_, ?_, g4, g5⟩
          · rw [Sem.run_bind]
            show ((Builtin.append_ #[st, xt] ty #[.slice (some ⟨lo.blk, lo.sh + off, none⟩) len (cap + lo.ext), x']).run C.P w).andThen _ = _
            rw [f2]
            rfl
          · simp only [conc, concSlice, Env.put_same]
            congr 2
            show len + n + (cap2 - (len + n)) = cap2
            omega
end
end Go.Ax

namespace Go.Ax
section
variable {C : Ctx} (K : C.Ok) {ρ : Env} {H : Heap} {B : Nat} {w : World} {l : LV} {tm : T Value} {a : Act} {id : Nat}
include K
theorem copy_sound (R : Rep ρ H B w) {dt ty : TypeId} {ts : List TypeId} {d s d' s' : Value} {r : ORes} (h : copyE C H dt d s = some r) (hd : conc ρ d = some d') (hs : conc ρ s = some s') :
    Post C id ρ H B w (do pure (.value (← Builtin.copy_ ⟨dt :: ts⟩ ty #[d', s']))) r := by
  obtain ⟨td, a1, h⟩ := ob_eq_some h
  obtain ⟨e, a2, h⟩ := ob_eq_some h
  obtain ⟨j, a3, h⟩ := ob_eq_some h
  obtain ⟨m, a4, h⟩ := ob_eq_some h
  obtain ⟨x, a5, h⟩ := ob_eq_some h
  have := asSl_eq a2
  subst this
  have hlen : (Builtin.lenOf s').run C.P w = .ok m w := len_conc a4 hs w
  have hsv := asSlice_conc a5 hd
  cases x with
  | nil =>
    cases h
    replace hsv : d' = .slice none 0 0 := hsv
    subst hsv
    refine Val.post R ⟨.int .i64 0, ?_, conc_int _ _⟩
    have hf : (Builtin.firstCells j.size 0 s').run C.P w = .ok #[] w := by
      cases s with
      | slice y n c =>
        obtain ⟨y', c', rfl, _⟩ := conc_slice_shape hs
        cases y' with
        | none => exact run_firstCells_none ..
        | some y' => exact run_firstCells_some w j.size 0 y' n c' [] (by simp) (fun i x hx => by simp at hx)
      | string t =>
        simp [conc] at hs
        subst hs
        simp only [Builtin.firstCells, Sem.run_pure]
        congr 1
        apply Array.eq_empty_of_size_eq_zero
        simp
      | _ => simp [lenE] at a4
    simp [Builtin.copy_, K.run_und a1 w, hlen, K.run_size a3 w, hf, goInt]
  | mk b off o n cap =>
    obtain ⟨lo, hlo, hsv⟩ := hsv
    subst hsv
    simp only [natF_eq] at h
    obtain ⟨vs, a6, h⟩ := ob_eq_some h
    obtain ⟨a7, h⟩ := og_eq_some h
    obtain ⟨H', a8, h⟩ := ob_eq_some h
    cases h
    obtain ⟨vs', b1, b2⟩ := elems_sound R a6 hs
    obtain ⟨w', d1, d2, d3⟩ := wrN_sound R a8 b1 C.P id hlo (lo.sh + off) rfl
    have hk : Nat.min m n = Bool.rec (motive := fun _ => Nat) n m (Nat.ble m n) := by
      cases hb : Nat.ble m n with
      | true => exact Nat.min_eq_left (Nat.le_of_ble_eq_true hb)
      | false =>
        refine Nat.min_eq_right ?_
        rcases Nat.lt_or_ge n m with g | g
        · exact Nat.le_of_lt g
        · rw [Nat.ble_eq_true_of_le g] at hb; cases hb
    rw [← hk] at b2 ⊢
    refine ⟨ρ, .int .i64 (Nat.min m n : Nat), w', ?_, conc_int _ _, d2, d3⟩
    have hf := b2 C.P w rfl
    simp only [Builtin.copy_, List.getElem?_toArray, List.getElem?_cons_zero, List.getElem?_cons_succ, Sem.run_bind, K.run_und a1 w, Result.andThen_ok, hlen, K.run_size a3 w, hf, d1, Sem.run_pure, goInt]
theorem clear_sound (R : Rep ρ H B w) {t ty : TypeId} {ts : List TypeId} {x x' : Value} {H' : Heap} (h : clearE C H t x = some H') (hx : conc ρ x = some x') :
    Post C id ρ H B w (do pure (.value (← Builtin.clear_ ⟨t :: ts⟩ ty #[x']))) (.val (.tuple ⟨[]⟩) H') := by
  obtain ⟨td, a1, h⟩ := ob_eq_some h
  obtain ⟨e, a2, h⟩ := ob_eq_some h
  obtain ⟨j, a3, h⟩ := ob_eq_some h
  obtain ⟨z, a4, h⟩ := ob_eq_some h
  obtain ⟨a5, h⟩ := og_eq_some h
  obtain ⟨sv, a6, h⟩ := ob_eq_some h
  have := asSl_eq a2
  subst this
  have hsv := asSlice_conc a6 hx
  have htup : ∀ ρ : Env, conc ρ (.tuple ⟨[]⟩) = some (.tuple #[]) := fun ρ => by simp [conc, concA, concL]
  cases sv with
  | nil =>
    cases h
    replace hsv : x' = .slice none 0 0 := hsv
    subst hsv
    exact Val.post R ⟨.tuple #[], by simp [Builtin.clear_, K.run_und a1 w], htup ρ⟩
  | mk b off o n cap =>
    obtain ⟨lo, hlo, hsv⟩ := hsv
    subst hsv
    cases n with
    | zero =>
      cases h
      exact Val.post R ⟨.tuple #[], by simp [Builtin.clear_, K.run_und a1 w], htup ρ⟩
    | succ n =>
      have h : wrN H b off (rep z (n + 1)) = some H' := h
      obtain ⟨zv, g1, g2, g3⟩ := K.run_zero a3 a4 w
      obtain ⟨w', d1, d2, d3⟩ := wrN_sound R h (concL_plain ρ (rep_plain g3 (n + 1))) C.P id hlo (lo.sh + off) rfl
      refine ⟨ρ, .tuple #[], w', ?_, htup ρ, d2, d3⟩
      have hzc : zv.cells = ⟨z⟩ := by apply Array.ext'; rw [cells_toList, g2]
      have hrow : Builtin.zeroCells zv.cells (n + 1) = ⟨rep z (n + 1)⟩ := by
        unfold Builtin.zeroCells
        rw [hzc]
        exact row_eq z _ (n + 1) (by simp)
      simp only [Builtin.clear_, List.getElem?_toArray, List.getElem?_cons_zero, Sem.run_bind, K.run_und a1 w, Result.andThen_ok, g1, hrow, d1, Sem.run_pure]
omit K in
theorem All2.length {α β : Type} {R : α → β → Prop} {xs : List α} {ys : List β} (h : All2 R xs ys) : xs.length = ys.length := by
  induction h with
  | nil => rfl
  | cons _ _ ih => simp [ih]
def FoundAt (ρ : Env) : Option (Nat × Value) → Option (Nat × Value) → Prop
  | none, none => True
  | some p, some q => p.1 = q.1 ∧ conc ρ p.2 = some q.2
  | _, _ => False
theorem keyEq_run {t : TypeId} {x y : Value} {r : Bool} (h : keyEq C t x y = some r) (hx : plain x = true) (hy : plain y = true) (w : World) : (Op.equal t x y).run C.P w = .ok r w := by
  unfold keyEq at h
  split at h
  · rename_i xs ys
    exact (eqAgg_run K h (concL_plain (fun _ => none) (by simpa [plain, plainA] using hx)) (concL_plain (fun _ => none) (by simpa [plain, plainA] using hy)) 9998 w).1
  · obtain ⟨d, h1, h2⟩ := ob_eq_some h
    obtain ⟨h3, h4⟩ := og_eq_some h2
    exact eqScalar_run (K.und h1) h3 h4 9999 w
theorem findAsking_run {t : TypeId} {k : Value} (hk : plain k = true) : ∀ {es es' : List MapEntry} {i : Nat} {r : Option (Nat × Value)}, findE C t k es i = some r → All2 (EntryAt ρ) es es' → ∀ w,
    ∃ r', (Instr.findAsking t k es' i).run C.P w = .ok r' w ∧ FoundAt ρ r r'
  | [], _, i, r, h, .nil, w => by
    cases h
    exact ⟨none, rfl, trivial⟩
  | e :: es, _, i, r, h, .cons (b := e') (m := es') he ha, w => by
    simp only [findE] at h
    obtain ⟨e1, e2, e3, e4⟩ := he
    cases hq : keyEq C t k e.key with
    | none => rw [hq] at h; cases h
    | some q =>
      rw [hq] at h
      have hrun := keyEq_run K hq hk e2
      rw [← e1] at hrun
      cases q with
      | true =>
        cases h
        exact ⟨some (i, e'.val), by simp [Instr.findAsking, hrun], rfl, e4⟩
      | false =>
        obtain ⟨r', g1, g2⟩ := findAsking_run hk h ha w
        exact ⟨r', by simp [Instr.findAsking, hrun, g1], g2⟩
omit K in
theorem sameNow_keyEq {t : TypeId} {d : TypeDesc} (hd : C.und t = some d) {k x : Value} {s : Bool} (hs : Instr.sameNow d k x = some s) : keyEq C t k x = some s := by
  have hb : ∀ (k0 : IntKind) (a0 b0 : Int), (match a0, b0 with
      | .ofNat m, .ofNat n => Nat.beq m n
      | .negSucc m, .negSucc n => Nat.beq m n
      | _, _ => false) = (a0 == b0) := by
    intro _ a0 b0
    cases a0 <;> cases b0
    · rename_i m q
      show Nat.beq m q = (Int.ofNat m == Int.ofNat q)
      rw [Bool.eq_iff_iff, beq_iff_eq, Nat.beq_eq]
      exact Int.ofNat_inj.symm
    · rfl
    · rfl
    · rename_i m q
      show Nat.beq m q = (Int.negSucc m == Int.negSucc q)
      rw [Bool.eq_iff_iff, beq_iff_eq, Nat.beq_eq]; simp
  cases d <;> cases k <;> first
    | (cases hs; done)
    | (cases x <;> first
        | (cases hs; done)
        | (simp only [Instr.sameNow] at hs
           split at hs
           · rename_i hkk
             cases hs
             subst hkk
             rename_i k0 a0 b0
             simp only [keyEq, hd, ob_some, scalarD, og_true, eqScalar, Nat.beq_refl]
             exact congrArg some (hb .i8 _ _)
           · cases hs)
        | (rename_i x y
           cases hs
           obtain ⟨⟨x⟩⟩ := x
           obtain ⟨⟨y⟩⟩ := y
           simp only [keyEq, hd, ob_some, scalarD, og_true, eqScalar, Option.some.injEq]
           rw [bytesEq_iff, beq_toListBytes, ByteArray.toList_eq, ByteArray.toList_eq])
        | (rename_i x y
           cases hs
           simp only [keyEq, hd, ob_some, scalarD, og_true, eqScalar]
           cases x <;> cases y <;> rfl))
omit K in
theorem findNow_eq {t : TypeId} {d : TypeDesc} (hd : C.und t = some d) {k : Value} : ∀ {es es' : List MapEntry} {i : Nat} {r r' : Option (Nat × Value)}, findE C t k es i = some r → All2 (EntryAt ρ) es es' →
    Instr.findNow d k es' i = some r' → FoundAt ρ r r'
  | [], _, i, r, r', h, .nil, hn => by
    cases h
    cases hn
    trivial
  | e :: es, _, i, r, r', h, .cons (b := e') (m := es') he ha, hn => by
    simp only [findE] at h
    obtain ⟨e1, e2, e3, e4⟩ := he
    simp only [Instr.findNow] at hn
    rw [e1] at hn
    cases hs : Instr.sameNow d k e.key with
    | none => rw [hs] at hn; cases hn
    | some s =>
      rw [hs] at hn
      have hq : keyEq C t k e.key = some s := sameNow_keyEq hd hs
      rw [hq] at h
      cases s with
      | true =>
        cases h
        cases hn
        exact ⟨rfl, e4⟩
      | false => exact findNow_eq hd h ha hn
theorem findKey_run {t : TypeId} {d : TypeDesc} (hd : C.und t = some d) {k : Value} (hk : plain k = true) {es es' : List MapEntry} {r : Option (Nat × Value)} (h : findE C t k es 0 = some r) (ha : All2 (EntryAt ρ) es es') (w : World) :
    ∃ r', (Instr.findKey t k es').run C.P w = .ok r' w ∧ FoundAt ρ r r' := by
  simp only [Instr.findKey, Sem.run_bind, K.run_und hd w, Result.andThen_ok]
  cases hn : Instr.findNow d k es' 0 with
  | some r' => exact ⟨r', rfl, findNow_eq hd h ha hn⟩
  | none => exact findAsking_run K hk h ha w
omit K in
theorem checkScalar {t : TypeId} {d : TypeDesc} (hd : C.P.underlying t = some d) {v : Value} (hs : scalarD d v = true) (em : Bool) (n : Nat) (w : World) : (Instr.checkKey em (n + 1) t v).run C.P w = .ok () w := by
  simp only [Instr.checkKey, Sem.run_bind, run_underlying hd, Result.andThen_ok]
  cases d <;> first | (cases hs; done) | (cases v <;> first | (cases hs; done) | rfl)
theorem checkScalars {e : TypeId} {j : TI} (hj : C.tys.get e = some j) (h1 : j.size = 1) (em : Bool) (n : Nat) : ∀ (xs : List Value) (i : Nat) {X : Array Value}, eqScalars j.d xs xs = some true → (∀ k, k < xs.length → X[i + k]? = xs[k]?) → ∀ w,
    (forIn (List.range' i xs.length) () (fun i _ => do
        let s ← sizeOf e
        let a ← part e X (i * s)
        Instr.checkKey em (n + 1) e a
        pure (ForInStep.yield ())) : Sem Unit).run C.P w = .ok () w
  | [], i, X, h, hX, w => by simp
  | x :: xs, i, X, h, hX, w => by
    simp only [eqScalars] at h
    split at h
    · cases h
    · rename_i hs
      cases hq : eqScalar x x with
      | none => rw [hq] at h; cases h
      | some q =>
        rw [hq] at h
        cases q with
        | false => cases h
        | true =>
          obtain ⟨_, _, hu, _⟩ := K.tys e j hj
          have px := fun w => part_scalar K hj hs (cs := X) (off := i * 1) (by have := hX 0 (by simp); simpa using this) w
          have hr : List.range' i (x :: xs).length = i :: List.range' (i + 1) xs.length := by simp [List.range'_succ]
          rw [hr, List.forIn_cons]
          simp only [Sem.run_bind, K.run_size hj, h1, px, Result.andThen_ok, checkScalar (C := C) hu hs em n, Sem.run_pure]
          exact checkScalars hj h1 em n xs (i + 1) h (fun k hk => by have := hX (k + 1) (by simpa using hk); rw [List.getElem?_cons_succ] at this; rw [← this]; congr 1; omega) w
theorem checkFields (em : Bool) (n : Nat) : ∀ (fs : List Field) (off : Nat) (xs : List Value) {X : Array Value}, eqFields C fs off xs xs = some true → (∀ k, k < xs.length → X[off + k]? = xs[k]?) → ∀ w,
    (forIn fs () (fun f _ => do
        if f.name ≠ "_" then
          let a ← part f.type X f.offset
          Instr.checkKey em (n + 1) f.type a
          pure (ForInStep.yield ())
        else pure (ForInStep.yield ())) : Sem Unit).run C.P w = .ok () w
  | [], off, xs, X, h, hX, w => by simp
  | f :: fs, off, [], X, h, hX, w => by simp [eqFields] at h
  | f :: fs, off, x :: xs, X, h, hX, w => by
    simp only [eqFields] at h
    cases hj : C.tys.get f.type with
    | none => rw [hj] at h; cases h
    | some j =>
      rw [hj] at h
      simp only [] at h
      split at h
      · cases h
      · rename_i hoff
        have hoff := Nat.eq_of_beq_eq_true hoff
        split at h
        · cases h
        · rename_i hname
          split at h
          · cases h
          · rename_i hs
            cases hq : eqScalar x x with
            | none => rw [hq] at h; cases h
            | some q =>
              rw [hq] at h
              cases q with
              | false => cases h
              | true =>
                obtain ⟨_, _, hu, _⟩ := K.tys f.type j hj
                have px := fun w => part_scalar K hj hs (cs := X) (off := f.offset) (by have := hX 0 (by simp); rw [hoff]; simpa using this) w
                have hn : f.name ≠ "_" := by simpa using hname
                rw [List.forIn_cons]
                rw [if_pos hn]
                simp only [Sem.run_bind, px, Result.andThen_ok, checkScalar (C := C) hu hs em n, Sem.run_pure]
                exact checkFields em n fs (off + 1) xs h (fun k hk => by have := hX (k + 1) (by simpa using hk); rw [List.getElem?_cons_succ] at this; rw [← this]; congr 1; omega) w
theorem checkKey_run {t : TypeId} {k : Value} (h : keyOk C t k = true) (em : Bool) (w : World) : (Instr.checkKey em 10000 t k).run C.P w = .ok () w := by
  have h : keyEq C t k k = some true := by
    unfold keyOk at h
    split at h
    · assumption
    · cases h
  have key : ∀ n, (Instr.checkKey em (n + 2) t k).run C.P w = .ok () w := by
    intro n
    have hcase : (∃ xs, k = .agg ⟨xs⟩ ∧ eqAgg C t xs xs = some true) ∨ (ob (C.und t) fun d => og (scalarD d k) (eqScalar k k)) = some true := by
      cases k with
      | agg cs =>
        obtain ⟨xs⟩ := cs
        exact .inl ⟨xs, rfl, h⟩
      | _ => exact .inr h
    rcases hcase with ⟨xs, rfl, h⟩ | h
    ·
      obtain ⟨i, hi, h1⟩ := ob_eq_some h
      obtain ⟨h2, h3⟩ := og_eq_some h1
      obtain ⟨_, _, hu, _⟩ := K.tys t i hi
      split at h3
      · rename_i n' e hd
        obtain ⟨j, hj, g1⟩ := ob_eq_some h3
        obtain ⟨g2, g3⟩ := og_eq_some g1
        obtain ⟨g4, g5⟩ := og_eq_some g3
        obtain ⟨g6, g7⟩ := og_eq_some g5
        have hsz := Nat.eq_of_beq_eq_true g2
        have hlx := Nat.eq_of_beq_eq_true g4
        rw [hd] at hu
        have key := checkScalars K hj hsz em n xs 0 (X := ⟨xs⟩) g7 (fun k _ => by simp) w
        show (Instr.checkKey em ((n + 1) + 1) t (.agg ⟨xs⟩)).run C.P w = .ok () w
        generalize n + 1 = m at key
        simp only [Instr.checkKey, Sem.run_bind, run_underlying hu, Result.andThen_ok, Std.Legacy.Range.forIn_eq_forIn_range', Std.Legacy.Range.size, Nat.sub_zero, Nat.add_one_sub_one, Nat.div_one]
        rw [← hlx]
        simp at key ⊢
        exact congrArg (fun r => Result.andThen r fun _ w' => Result.ok () w') key
      · rename_i fs hd
        rw [hd] at hu
        have key := checkFields K em n fs.toList 0 xs (X := ⟨xs⟩) h3 (fun k _ => by simp) w
        show (Instr.checkKey em ((n + 1) + 1) t (.agg ⟨xs⟩)).run C.P w = .ok () w
        generalize n + 1 = m at key
        simp only [Instr.checkKey, Sem.run_bind, run_underlying hu, Result.andThen_ok]
        rw [← Array.forIn_toList]
        simp at key ⊢
        exact congrArg (fun r => Result.andThen r fun _ w' => Result.ok () w') key
      · cases h3
    · obtain ⟨d, h1, h2⟩ := ob_eq_some h
      obtain ⟨h3, h4⟩ := og_eq_some h2
      exact checkScalar (C := C) (K.und h1) h3 em (n + 1) w
  exact key 9998
omit K in
theorem keyOk_und {t : TypeId} {k : Value} (h : keyOk C t k = true) : ∃ d, C.und t = some d := by
  have h : keyEq C t k k = some true := by
    unfold keyOk at h
    split at h
    · assumption
    · cases h
  unfold keyEq at h
  split at h
  · obtain ⟨i, hi, _⟩ := ob_eq_some h
    exact ⟨i.d, by simp [Ctx.und, hi]⟩
  · obtain ⟨d, h1, _⟩ := ob_eq_some h
    exact ⟨d, h1⟩
end
end Go.Ax

namespace Go.Ax
theorem eqScalar_true {x y : Value} (h : eqScalar x y = some true) : x = y := by
  unfold eqScalar at h
  split at h
  · split at h
    · rename_i hk
      have := kno_inj (Nat.eq_of_beq_eq_true hk)
      subst this
      rename_i a _ b _
      congr 1
      have h := Option.some.inj h
      split at h
      · exact congrArg Int.ofNat (Nat.eq_of_beq_eq_true h)
      · exact congrArg Int.negSucc (Nat.eq_of_beq_eq_true h)
      · cases h
    · cases h
  · rename_i a b
    cases a <;> cases b <;> first | rfl | (cases h)
  · rename_i a b
    have h := Option.some.inj h
    rw [bytesEq_iff] at h
    rw [eq_of_beq h]
  · cases h
theorem eqScalars_true {d : TypeDesc} : ∀ {xs ys : List Value}, eqScalars d xs ys = some true → xs = ys
  | [], [], _ => rfl
  | [], _ :: _, h => by simp [eqScalars] at h
  | _ :: _, [], h => by simp [eqScalars] at h
  | x :: xs, y :: ys, h => by
    simp only [eqScalars] at h
    split at h
    · cases h
    · cases hq : eqScalar x y with
      | none => rw [hq] at h; cases h
      | some q =>
        rw [hq] at h
        cases q with
        | false => cases h
        | true => rw [eqScalar_true hq, eqScalars_true h]
theorem eqFields_true {C : Ctx} : ∀ {fs : List Field} {off : Nat} {xs ys : List Value}, eqFields C fs off xs ys = some true → xs = ys
  | [], _, [], [], _ => rfl
  | [], _, _ :: _, _, h => by simp [eqFields] at h
  | [], _, [], _ :: _, h => by simp [eqFields] at h
  | _ :: _, _, [], _, h => by simp [eqFields] at h
  | _ :: _, _, _ :: _, [], h => by simp [eqFields] at h
  | f :: fs, off, x :: xs, y :: ys, h => by
    simp only [eqFields] at h
    cases hj : C.tys.get f.type with
    | none => rw [hj] at h; cases h
    | some j =>
      rw [hj] at h
      simp only [] at h
      split at h
      · cases h
      · split at h
        · cases h
        · split at h
          · cases h
          · cases hq : eqScalar x y with
            | none => rw [hq] at h; cases h
            | some q =>
              rw [hq] at h
              cases q with
              | false => cases h
              | true => rw [eqScalar_true hq, eqFields_true h]
theorem keyEq_true {C : Ctx} {t : TypeId} {x y : Value} (h : keyEq C t x y = some true) : x = y := by
  unfold keyEq at h
  split at h
  · obtain ⟨i, _, h1⟩ := ob_eq_some h
    obtain ⟨_, h3⟩ := og_eq_some h1
    split at h3
    · obtain ⟨j, _, g1⟩ := ob_eq_some h3
      obtain ⟨_, g3⟩ := og_eq_some g1
      obtain ⟨_, g5⟩ := og_eq_some g3
      obtain ⟨_, g7⟩ := og_eq_some g5
      rw [eqScalars_true g7]
    · rw [eqFields_true h3]
    · cases h3
  · obtain ⟨d, _, h2⟩ := ob_eq_some h
    obtain ⟨_, h4⟩ := og_eq_some h2
    exact eqScalar_true h4
theorem sameBits_scalar {x : Value} (h : eqScalar x x = some true) (n : Nat) : Instr.sameBits n x x = true := by
  cases x with
  | int k i => cases n <;> simp [Instr.sameBits]
  | bool b => cases n <;> simp [Instr.sameBits]
  | string s =>
    have hs : (s == s) = true := by
      obtain ⟨l⟩ := s
      exact beq_self_eq_true l
    cases n <;> simp [Instr.sameBits, hs]
  | _ => simp [eqScalar] at h
theorem sameBits_list (n : Nat) : ∀ {xs : List Value}, (∀ x ∈ xs, eqScalar x x = some true) → ((xs.zip xs).all fun (x, y) => Instr.sameBits n x y) = true
  | [], _ => rfl
  | x :: xs, h => by
    simp only [List.zip_cons_cons, List.all_cons, Bool.and_eq_true]
    exact ⟨sameBits_scalar (h x (by simp)) n, sameBits_list n fun y hy => h y (by simp [hy])⟩
theorem eqScalars_all {d : TypeDesc} : ∀ {xs : List Value}, eqScalars d xs xs = some true → ∀ x ∈ xs, eqScalar x x = some true
  | [], _ => fun x hx => by cases hx
  | x :: xs, h => by
    simp only [eqScalars] at h
    split at h
    · cases h
    · cases hq : eqScalar x x with
      | none => rw [hq] at h; cases h
      | some q =>
        rw [hq] at h
        cases q with
        | false => cases h
        | true =>
          intro y hy
          rcases List.mem_cons.1 hy with rfl | hy
          · exact hq
          · exact eqScalars_all h y hy
theorem eqFields_all {C : Ctx} : ∀ {fs : List Field} {off : Nat} {xs : List Value}, eqFields C fs off xs xs = some true → ∀ x ∈ xs, eqScalar x x = some true
  | [], _, [], _ => fun x hx => by cases hx
  | [], _, _ :: _, h => by simp [eqFields] at h
  | _ :: _, _, [], h => by simp [eqFields] at h
  | f :: fs, off, x :: xs, h => by
    simp only [eqFields] at h
    cases hj : C.tys.get f.type with
    | none => rw [hj] at h; cases h
    | some j =>
      rw [hj] at h
      simp only [] at h
      split at h
      · cases h
      · split at h
        · cases h
        · split at h
          · cases h
          · cases hq : eqScalar x x with
            | none => rw [hq] at h; cases h
            | some q =>
              rw [hq] at h
              cases q with
              | false => cases h
              | true =>
                intro y hy
                rcases List.mem_cons.1 hy with rfl | hy
                · exact hq
                · exact eqFields_all h y hy
theorem keyOk_self {C : Ctx} {t : TypeId} {k : Value} (h : keyOk C t k = true) : keyEq C t k k = some true := by
  unfold keyOk at h
  split at h
  · assumption
  · cases h
theorem keyOk_bits {C : Ctx} {t : TypeId} {k : Value} (h : keyOk C t k = true) : Instr.sameBits 10000 k k = true := by
  have h := keyOk_self h
  have hcase : (∃ xs, k = .agg ⟨xs⟩ ∧ eqAgg C t xs xs = some true) ∨ (ob (C.und t) fun d => og (scalarD d k) (eqScalar k k)) = some true := by
    cases k with
    | agg cs =>
      obtain ⟨xs⟩ := cs
      exact .inl ⟨xs, rfl, h⟩
    | _ => exact .inr h
  rcases hcase with ⟨xs, rfl, h⟩ | h
  · obtain ⟨i, _, h1⟩ := ob_eq_some h
    obtain ⟨_, h3⟩ := og_eq_some h1
    have hall : ∀ x ∈ xs, eqScalar x x = some true := by
      split at h3
      · obtain ⟨j, _, g1⟩ := ob_eq_some h3
        obtain ⟨_, g3⟩ := og_eq_some g1
        obtain ⟨_, g5⟩ := og_eq_some g3
        obtain ⟨_, g7⟩ := og_eq_some g5
        exact eqScalars_all g7
      · exact eqFields_all h3
      · cases h3
    have := sameBits_list 9999 hall
    simp only [Instr.sameBits, beq_self_eq_true, Bool.true_and]
    exact this
  · obtain ⟨d, _, h2⟩ := ob_eq_some h
    obtain ⟨_, h4⟩ := og_eq_some h2
    exact sameBits_scalar h4 _
theorem findE_key {C : Ctx} {t : TypeId} {k : Value} : ∀ {es : List MapEntry} {i j : Nat} {v : Value}, findE C t k es i = some (some (j, v)) → ∃ e, i ≤ j ∧ es[j - i]? = some e ∧ e.key = k
  | [], _, _, _, h => by cases h
  | e :: es, i, j, v, h => by
    simp only [findE] at h
    cases hq : keyEq C t k e.key with
    | none => rw [hq] at h; cases h
    | some q =>
      rw [hq] at h
      cases q with
      | true =>
        cases h
        exact ⟨e, Nat.le_refl _, by simp, (keyEq_true hq).symm⟩
      | false =>
        obtain ⟨e', h1, h2, h3⟩ := findE_key h
        refine ⟨e', by omega, ?_, h3⟩
        have : j - i = (j - (i + 1)) + 1 := by omega
        rw [this, List.getElem?_cons_succ]
        exact h2
theorem All2.get {α β : Type} {R : α → β → Prop} {xs : List α} {ys : List β} (h : All2 R xs ys) {i : Nat} {x : α} (hx : xs[i]? = some x) : ∃ y, ys[i]? = some y ∧ R x y := by
  induction h generalizing i with
  | nil => simp at hx
  | cons hr _ ih =>
    cases i with
    | zero => simp at hx; subst hx; exact ⟨_, by simp, hr⟩
    | succ i => simp at hx; simpa using ih hx
theorem setEntry_all {ρ : Env} {v v' k : Value} (hv : conc ρ v = some v') : ∀ {es es' : List MapEntry} {i : Nat}, All2 (EntryAt ρ) es es' → (∀ e, es[i]? = some e → e.key = k) →
    All2 (EntryAt ρ) (setEntry v es i) (es'.modify i fun e => { e with key := k, val := v' })
  | [], _, i, .nil, _ => by cases i <;> exact .nil
  | e :: es, _, 0, .cons (b := e') (m := m) he ha, hk => by
    have hkk := hk e (by simp)
    exact .cons ⟨hkk.symm, he.2.1, he.2.2.1, hv⟩ ha
  | e :: es, _, i + 1, .cons he ha, hk => .cons he (setEntry_all hv ha fun e2 h2 => hk e2 (by simpa using h2))
theorem dropEntry_all {ρ : Env} : ∀ {es es' : List MapEntry} {i : Nat}, All2 (EntryAt ρ) es es' → All2 (EntryAt ρ) (dropEntry es i) (es'.eraseIdx i)
  | [], _, i, .nil => by cases i <;> exact .nil
  | _ :: _, _, 0, .cons _ ha => ha
  | _ :: _, _, _ + 1, .cons he ha => .cons he (dropEntry_all ha)
theorem push_all {ρ : Env} {e e' : MapEntry} (he : EntryAt ρ e e') : ∀ {es es' : List MapEntry}, All2 (EntryAt ρ) es es' → All2 (EntryAt ρ) (es ++ [e]) (es' ++ [e'])
  | _, _, .nil => .cons he .nil
  | _, _, .cons h ha => .cons h (push_all he ha)
section
variable {ρ : Env} {H : Heap} {B : Nat} {w : World}
theorem map_set (R : Rep ρ H B w) {r : Nat} {es0 : List MapEntry} {c0 : Nat} (hk : H.blks.get r = some (.map es0 c0)) (es : List MapEntry) (c : Nat) {es' : Array MapEntry} (ha : All2 (EntryAt ρ) es es'.toList) (x : Nat) {lo : Loc} (hl : ρ r = some lo) :
    Rep ρ ⟨H.blks.set r (some (.map es c)), H.fams, H.next⟩ B (setBlk w lo.blk (.map es' c)) ∧ Stp x ρ H w ρ ⟨H.blks.set r (some (.map es c)), H.fams, H.next⟩ (setBlk w lo.blk (.map es' c)) := by
  have hlt := R.inb r lo hl
  have hown := (R.own r _ lo hk rfl hl).2 rfl
  have hget : ∀ {b k}, (H.blks.set r (some (.map es c))).get b = some k → (b = r ∧ k = .map es c) ∨ (b ≠ r ∧ H.blks.get b = some k) := by
    intro b k h
    by_cases hb : b = r
    · subst hb; rw [T.get_set_same] at h; cases h; exact .inl ⟨rfl, rfl⟩
    · rw [T.get_set_ne _ _ hb] at h; exact .inr ⟨hb, h⟩
  have hother : ∀ {b k l}, b ≠ r → H.blks.get b = some k → k.live = true → ρ b = some l → l.blk ≠ lo.blk := by
    intro b k l hb h lv e he
    cases hr : k.ro with
    | true =>
      have := (R.own b k l h lv e).1 hr
      omega
    | false =>
      have := R.apart b r k _ l lo hb h hk lv rfl hr rfl e hl he
      cases k <;> exact this.elim
  refine ⟨⟨?_, fun b l h => by rw [setBlk_size]; exact R.inb b l h, ?_, ?_, ?_, R.famn, ?_, by rw [setBlk_size]; exact R.base, ?_⟩,
    ⟨Env.le_refl ρ, (fun b l h1 h2 => by rw [h1] at h2; cases h2), Nat.le_refl _, rfl, rfl, rfl, (by rw [setBlk_size]; exact Nat.le_refl _), ?_, ?_, ?_, ?_⟩⟩
  · intro b k h lv
    rcases hget h with ⟨rfl, rfl⟩ | ⟨hb, h⟩
    · exact ⟨lo, hl, es', setBlk_same _ hlt, ha⟩
    · obtain ⟨l, e, hat⟩ := R.dom b k h lv
      exact ⟨l, e, hat.move (Env.le_refl ρ) (setBlk_ne _ (hother hb h lv e))⟩
  · intro b k l h lv e
    rcases hget h with ⟨rfl, rfl⟩ | ⟨hb, h⟩
    · rw [hl] at e
      cases e
      exact And.intro (fun e => by cases e) (fun _ => hown)
    · exact R.own b k l h lv e
  · intro b1 b2 k1 k2 l1 l2 hne h1 h2 lv1 lv2 r1 r2 e1 e2 he
    rcases hget h1 with ⟨u1, v1⟩ | ⟨hb1, h1'⟩
    · rcases hget h2 with ⟨u2, v2⟩ | ⟨hb2, h2'⟩
      · exact absurd (u1.trans u2.symm) hne
      · rw [u1, hl] at e1
        cases e1
        exact absurd he.symm (hother hb2 h2' lv2 e2)
    · rcases hget h2 with ⟨u2, v2⟩ | ⟨hb2, h2'⟩
      · rw [u2, hl] at e2
        cases e2
        exact absurd he (hother hb1 h1' lv1 e1)
      · exact R.apart b1 b2 k1 k2 l1 l2 hne h1' h2' lv1 lv2 r1 r2 e1 e2 he
  · intro b vals n esz fam pos frz h
    rcases hget h with ⟨_, hkk⟩ | ⟨hb, h⟩
    · cases hkk
    · exact R.mem b vals n esz fam pos frz h
  · intro b vals n esz fam pos frz ro h
    rcases hget h with ⟨_, hkk⟩ | ⟨hb, h⟩
    · cases hkk
    · exact R.famd b vals n esz fam pos frz ro h
  · intro b vals n esz pos frz ro l h e
    rcases hget h with ⟨_, hkk⟩ | ⟨hb, h⟩
    · cases hkk
    · exact R.root b vals n esz pos frz ro l h e
  · intro d hd hno
    exact setBlk_ne _ (fun e => hno r _ lo hk rfl rfl hl e.symm)
  · intro b k l h lv ro e hlt
    rcases hget h with ⟨rfl, rfl⟩ | ⟨hb, h⟩
    · exact ⟨b, _, l, hk, rfl, rfl, e, rfl⟩
    · exact ⟨b, k, l, h, lv, ro, e, rfl⟩
  · intro f _ _ hno
    refine ⟨rfl, ?_⟩
    intro b vals n esz pos frz h
    rcases hget h with ⟨_, hkk⟩ | ⟨hb, h⟩
    · cases hkk
    · exact hno b vals n esz pos frz h
  · intro b k h
    rcases hget h with ⟨rfl, _⟩ | ⟨_, h⟩
    · exact .inl ⟨_, hk⟩
    · exact .inl ⟨k, h⟩
end
section
variable {C : Ctx} (K : C.Ok) {ρ : Env} {H : Heap} {B : Nat} {w : World} {l : LV} {tm : T Value} {a : Act} {id : Nat}
include K
theorem lookup_sound (R : Rep ρ H B w) {t : TypeId} {x k x' k' v : Value} {ok : Bool} (h : lookupE C H t x k ok = some v) (hx : conc ρ x = some x') (hk : conc ρ k = some k') : Val C ρ w (Instr.lookup t x' k' ok) v := by
  obtain ⟨d, a1, h0⟩ := ob_eq_some h
  clear h
  obtain ⟨p, a2, h⟩ := ob_eq_some h0
  clear h0
  obtain ⟨a3, h1⟩ := og_eq_some h
  obtain ⟨a4, h2⟩ := og_eq_some h1
  obtain ⟨es, a5, h3⟩ := ob_eq_some h2
  clear h h1 h2
  obtain ⟨r, a6, h⟩ := ob_eq_some h3
  clear h3
  have := asMp_eq a2
  subst this
  rw [conc_plain ρ a4] at hk
  cases hk
  obtain ⟨dk, hdk⟩ := keyOk_und a3
  have hes : ∃ es' : Array MapEntry, All2 (EntryAt ρ) es es'.toList ∧ ((x' = .map none ∧ es' = #[]) ∨ ∃ b c, x' = .map (some b) ∧ w.heap[b]? = some (.map es' c)) := by
    clear h a6
    unfold entriesE at a5
    split at a5
    · cases a5
      simp [conc] at hx
      subst hx
      exact ⟨#[], .nil, .inl ⟨rfl, rfl⟩⟩
    · rename_i r0
      obtain ⟨b, g1, g2⟩ := ob_eq_some a5
      obtain ⟨e, g3, g4⟩ := ob_eq_some g2
      cases g4
      have := asEntries_eq g3
      subst this
      obtain ⟨lo, hl, es', g5, g6⟩ := R.dom r0 _ g1 rfl
      simp [conc, hl] at hx
      subst hx
      exact ⟨es', g6, .inr ⟨_, _, rfl, g5⟩⟩
    · cases a5
  obtain ⟨es', b1, b2⟩ := hes
  obtain ⟨r', c1, c2⟩ := findKey_run K hdk a4 a6 b1 w
  have hck := checkKey_run K a3 es'.isEmpty w
  have hgo : ∀ v' : Value, (∃ i, r' = some (i, v')) ∨ (r' = none ∧ (zeroValue p.2).run C.P w = .ok v' w) → (Instr.lookup t x' k ok).run C.P w = .ok (if ok then .tuple #[v', .bool r'.isSome] else v') w := by
    intro v' hv'
    rcases b2 with ⟨rfl, rfl⟩ | ⟨b, c, rfl, hb⟩
    · rcases hv' with ⟨i, rfl⟩ | ⟨rfl, hz⟩
      · simp only [Instr.lookup, Sem.run_bind, K.run_und a1 w, Result.andThen_ok, Sem.run_pure, hck, c1, Option.isSome_some]
      · simp only [Instr.lookup, Sem.run_bind, K.run_und a1 w, Result.andThen_ok, Sem.run_pure, hck, c1, hz, Option.isSome_none]
    · have hg : (getObj b).run C.P w = .ok (.map es' c) w := by simp only [getObj, Sem.run, hb]
      rcases hv' with ⟨i, rfl⟩ | ⟨rfl, hz⟩
      · simp only [Instr.lookup, Sem.run_bind, K.run_und a1 w, Result.andThen_ok, Sem.run_pure, hg, hck, c1, Option.isSome_some]
      · simp only [Instr.lookup, Sem.run_bind, K.run_und a1 w, Result.andThen_ok, Sem.run_pure, hg, hck, c1, hz, Option.isSome_none]
  cases r with
  | some q =>
    cases r' with
    | none => exact c2.elim
    | some q' =>
      cases h
      refine ⟨_, hgo q'.2 (.inl ⟨q'.1, rfl⟩), ?_⟩
      cases ok
      · exact c2.2
      · simp [okV, conc, concA, concL, c2.2]
  | none =>
    cases r' with
    | some q' => exact c2.elim
    | none =>
      obtain ⟨j, d1, h⟩ := ob_eq_some h
      obtain ⟨z, d2, h⟩ := ob_eq_some h
      cases h
      obtain ⟨info, i1, _, _, _, _, _, _, _, i9⟩ := K.tys p.2 j d1
      obtain ⟨i10, i11⟩ := i9 z d2
      refine ⟨_, hgo z (.inr ⟨rfl, by simp [zeroValue, typeInfo, i1, i10]⟩), ?_⟩
      cases ok
      · exact conc_plain ρ i11
      · simp [okV, conc, concA, concL, conc_plain ρ i11]
theorem mapSet_sound (R : Rep ρ H B w) {t : TypeId} {m k v m' k' v' : Value} {H' : Heap} (h : mapSetE C H t m k v = some H') (hm : conc ρ m = some m') (hk : conc ρ k = some k') (hv : conc ρ v = some v') (x : Nat) :
    ∃ w', (Instr.mapUpdate t m' k' v').run C.P w = .ok () w' ∧ Rep ρ H' B w' ∧ Stp x ρ H w ρ H' w' := by
  obtain ⟨d, a1, h0⟩ := ob_eq_some h
  clear h
  obtain ⟨p, a2, h⟩ := ob_eq_some h0
  clear h0
  have := asMp_eq a2
  subst this
  split at h
  · rename_i r
    obtain ⟨b, g1, h⟩ := ob_eq_some h
    obtain ⟨e, g3, h⟩ := ob_eq_some h
    obtain ⟨a3, h⟩ := og_eq_some h
    obtain ⟨a4, h⟩ := og_eq_some h
    obtain ⟨q, a6, h⟩ := ob_eq_some h
    have := asEntries_eq g3
    subst this
    obtain ⟨lo, hl, es', g5, g6⟩ := R.dom r _ g1 rfl
    simp [conc, hl] at hm
    subst hm
    rw [conc_plain ρ a4] at hk
    cases hk
    obtain ⟨dk, hdk⟩ := keyOk_und a3
    obtain ⟨q', c1, c2⟩ := findKey_run K hdk a4 a6 g6 w
    have hck := checkKey_run K a3 false w
    have hset : ∀ o : Obj, (setObj lo.blk o).run C.P w = .ok () (setBlk w lo.blk o) := by
      intro o
      simp only [setObj, Sem.run, g5]
      rfl
    cases q with
    | some q =>
      cases q' with
      | none => exact c2.elim
      | some q' =>
        cases h
        obtain ⟨e0, f1, f2, f3⟩ := findE_key a6
        rw [Nat.sub_zero] at f2
        obtain ⟨e1, f4, f5⟩ := g6.get f2
        have hidx : q'.1 = q.1 := c2.1.symm
        have hall := setEntry_all (k := k) hv g6 (i := q.1) (fun e2 h2 => by rw [f2] at h2; cases h2; exact f3)
        obtain ⟨k1, k2⟩ := map_set (x := x) R g1 (setEntry v e.1 q.1) e.2 (es' := es'.modify q.1 fun e => { e with key := k, val := v' }) (by rw [Array.toList_modify]; exact hall) hl
        refine ⟨_, ?_, k1, k2⟩
        have hold : ((es'[q.1]?).map (·.key)).getD k = k := by
          have : es'[q.1]? = some e1 := by rw [← Array.getElem?_toList]; exact f4
          rw [this]
          show e1.key = k
          rw [f5.1, f3]
        simp only [Instr.mapUpdate, Sem.run_bind, K.run_und a1 w, Result.andThen_ok, getObj, Sem.run, g5, hck, c1]
        simp only [hidx, hold, Instr.keyThatStays, keyOk_bits a3, if_true, Sem.run_pure, Result.andThen_ok]
        exact hset _
    | none =>
      cases q' with
      | some q' => exact c2.elim
      | none =>
        cases h
        have he : EntryAt ρ ⟨k, v, e.2⟩ ⟨k, v', e.2⟩ := ⟨rfl, a4, rfl, hv⟩
        obtain ⟨k1, k2⟩ := map_set (x := x) R g1 (e.1 ++ [⟨k, v, e.2⟩]) (Nat.succ e.2) (es' := es'.push ⟨k, v', e.2⟩) (by rw [Array.toList_push]; exact push_all he g6) hl
        refine ⟨_, ?_, k1, k2⟩
        simp only [Instr.mapUpdate, Sem.run_bind, K.run_und a1 w, Result.andThen_ok, getObj, Sem.run, g5, hck, c1]
        exact hset _
  · cases h
theorem delete_sound (R : Rep ρ H B w) {t ty : TypeId} {ts : List TypeId} {m k m' k' : Value} {H' : Heap} (h : deleteE C H t m k = some H') (hm : conc ρ m = some m') (hk : conc ρ k = some k') :
    Post C id ρ H B w (do pure (.value (← Builtin.delete_ ⟨t :: ts⟩ ty #[m', k']))) (.val (.tuple ⟨[]⟩) H') := by
  obtain ⟨d, a1, h0⟩ := ob_eq_some h
  clear h
  obtain ⟨p, a2, h⟩ := ob_eq_some h0
  clear h0
  have := asMp_eq a2
  subst this
  have htup : conc ρ (.tuple ⟨[]⟩) = some (.tuple #[]) := by simp [conc, concA, concL]
  split at h
  · rename_i r
    obtain ⟨b, g1, h⟩ := ob_eq_some h
    obtain ⟨e, g3, h⟩ := ob_eq_some h
    obtain ⟨a3, h⟩ := og_eq_some h
    obtain ⟨a4, h⟩ := og_eq_some h
    obtain ⟨q, a6, h⟩ := ob_eq_some h
    have := asEntries_eq g3
    subst this
    obtain ⟨lo, hl, es', g5, g6⟩ := R.dom r _ g1 rfl
    simp [conc, hl] at hm
    subst hm
    rw [conc_plain ρ a4] at hk
    cases hk
    obtain ⟨dk, hdk⟩ := keyOk_und a3
    obtain ⟨q', c1, c2⟩ := findKey_run K hdk a4 a6 g6 w
    have hck := checkKey_run K a3 es'.isEmpty w
    have hset : ∀ o : Obj, (setObj lo.blk o).run C.P w = .ok () (setBlk w lo.blk o) := by
      intro o
      simp only [setObj, Sem.run, g5]
      rfl
    cases q with
    | some q =>
      cases q' with
      | none => exact c2.elim
      | some q' =>
        cases h
        have hidx : q'.1 = q.1 := c2.1.symm
        obtain ⟨k1, k2⟩ := map_set (x := id) R g1 (dropEntry e.1 q.1) e.2 (es' := es'.eraseIdxIfInBounds q.1) (by
          have : (es'.eraseIdxIfInBounds q.1).toList = es'.toList.eraseIdx q.1 := by simp
          rw [this]; exact dropEntry_all g6) hl
        refine ⟨ρ, .tuple #[], _, ?_, htup, k1, k2⟩
        have hd1 : (Builtin.delete_ ⟨t :: ts⟩ ty #[.map (some lo.blk), k]).run C.P w = .ok (.tuple #[]) (setBlk w lo.blk (.map (es'.eraseIdxIfInBounds q.1) e.2)) := by
          simp only [Builtin.delete_, List.getElem?_toArray, List.getElem?_cons_zero, List.getElem?_cons_succ, Sem.run_bind, K.run_und a1 w, Result.andThen_ok, getObj, Sem.run, g5, hck, c1, hidx, hset, Sem.run_pure]
        rw [Sem.run_bind, hd1]
        rfl
    | none =>
      cases q' with
      | some q' => exact c2.elim
      | none =>
        cases h
        obtain ⟨k1, k2⟩ := map_set (x := id) R g1 e.1 e.2 (es' := es') g6 hl
        refine ⟨ρ, .tuple #[], _, ?_, htup, k1, k2⟩
        have hd1 : (Builtin.delete_ ⟨t :: ts⟩ ty #[.map (some lo.blk), k]).run C.P w = .ok (.tuple #[]) (setBlk w lo.blk (.map es' e.2)) := by
          simp only [Builtin.delete_, List.getElem?_toArray, List.getElem?_cons_zero, List.getElem?_cons_succ, Sem.run_bind, K.run_und a1 w, Result.andThen_ok, getObj, Sem.run, g5, hck, c1, hset, Sem.run_pure]
        rw [Sem.run_bind, hd1]
        rfl
  · cases h
omit K in
theorem makeMap_sound (R : Rep ρ H B w) (hid : ρ id = none) {t : TypeId} {x : Option Operand} {r : ORes} (h : opMakeMap t x C l tm id H = some r) :
    Post C id ρ H B w (do pure (.value (← Instr.makeMap t (x.map a.eval)))) r := by
  unfold opMakeMap at h
  split at h
  · cases h
    obtain ⟨k1, k2⟩ := new_sound (k := .map [] 0) R hid rfl rfl 0 (Grow.alloc w (.map #[] 0)) ⟨#[], alloc_new w _, .nil⟩ (fun _ _ _ _ _ _ _ e => by cases e)
    refine ⟨_, .map (some w.heap.size), _, ?_, ?_, k1, k2⟩
    · simp [Instr.makeMap]
    · simp [conc, Env.put_same]
  · cases h
end
end Go.Ax

namespace Go.Ax
section
variable {C : Ctx} (K : C.Ok) {ρ : Env} {H : Heap} {B : Nat} {w : World} {l : LV} {tm : T Value} {a : Act} {id : Nat}
include K
omit K in
theorem clone_run {P : Program} {w : World} {t : TypeId} {b : Nat} {es : Array MapEntry} {c : Nat} (h : w.heap[b]? = some (.map es c)) :
    (Extern.MapsClone.clone #[.iface t (.map (some b))]).run P w = .ok (.iface t (.map (some w.heap.size))) (w.alloc (.map es c)) := by
  have hcl : Extern.MapsClone.clone #[.iface t (.map (some b))] = (getObj b >>= fun o => match o with
    | .map entries clock => (do pure (.iface t (.map (some (← newObj (.map entries clock))))) : Sem Value)
    | _ => stuck "maps.clone: a map expected") := rfl
  rw [hcl]
  simp only [Sem.run_bind, getObj, Sem.run, h, Result.andThen_ok, run_newObj, Sem.run_pure]
  rfl
omit K in
theorem only1_eq {xs : List Value} {x : Value} (h : only1 xs = some x) : xs = [x] := by
  unfold only1 at h
  split at h <;> cases h
  rfl
omit K in
theorem asIMap_eq {v : Value} {p : TypeId × Nat} (h : asIMap v = some p) : v = .iface p.1 (.map (some p.2)) := by
  unfold asIMap at h
  split at h <;> cases h
  rfl
omit K in
theorem concL_one {x : Value} {l : List Value} (h : concL ρ [x] = some l) : ∃ x', conc ρ x = some x' ∧ l = [x'] := by
  cases hx : conc ρ x with
  | none => simp [concL, hx] at h
  | some x' => simp [concL, hx] at h; exact ⟨x', rfl, h.symm⟩
omit K in
theorem All2.mono {es es' : List MapEntry} {ρ' : Env} (h : All2 (EntryAt ρ) es es') (k : ρ.le ρ') : All2 (EntryAt ρ') es es' := by
  induction h with
  | nil => exact .nil
  | cons a _ ih => exact .cons ⟨a.1, a.2.1, a.2.2.1, conc_mono k a.2.2.2⟩ ih
theorem enter_sound (R : Rep ρ H B w) (hid : ρ id = none) {f : FuncId} {args : List Value} {args' : List Value} {r : ORes} (h : enterE C H id f args = some r) (ha : concL ρ args = some args') :
    Post C id ρ H B w (callFunc f ⟨args'⟩) r := by
  unfold enterE at h
  cases hf : C.fns.get f with
  | some g =>
    rw [hf] at h
    replace h : some (ORes.enter f args) = some r := h
    cases h
    exact ⟨args', K.fns f g _ w hf, ha⟩
  | none =>
    rw [hf] at h
    replace h : extE C H id f args = some r := h
    obtain ⟨k, h1, h⟩ := ob_eq_some h
    have hk := K.ext f k h1
    cases k with
    | fn g =>
      obtain ⟨h2, h⟩ := og_eq_some h
      obtain ⟨v, h3, h⟩ := ob_eq_some h
      obtain ⟨u, h4, h⟩ := ob_eq_some h
      cases h
      obtain ⟨rfl, h5⟩ := constE_eq h4
      rw [concL_plain ρ h2] at ha
      cases ha
      exact ⟨ρ, u, w, hk args u h2 h3 w, conc_plain ρ h5, R, Stp.refl _ _ _ _⟩
    | same =>
      obtain ⟨x, h2, h⟩ := ob_eq_some h
      cases h
      have := only1_eq h2
      subst this
      obtain ⟨x', e1, e2⟩ := concL_one ha
      rw [e2]
      exact ⟨ρ, x', w, hk x' w, e1, R, Stp.refl _ _ _ _⟩
    | clone =>
      obtain ⟨x, h2, h⟩ := ob_eq_some h
      obtain ⟨p, h3, h⟩ := ob_eq_some h
      obtain ⟨b, h4, h⟩ := ob_eq_some h
      obtain ⟨en, h5, h⟩ := ob_eq_some h
      cases h
      have := only1_eq h2
      subst this
      obtain ⟨x', e1, e2⟩ := concL_one ha
      rw [e2]
      have := asIMap_eq h3
      subst this
      have := asEntries_eq h5
      subst this
      obtain ⟨lo, hl, es', g5, g6⟩ := R.dom p.2 _ h4 rfl
      simp [conc, hl] at e1
      subst e1
      obtain ⟨k1, k2⟩ := new_sound (k := .map en.1 en.2) R hid rfl rfl 0 (Grow.alloc w (.map es' en.2)) ⟨es', alloc_new w _, g6.mono (Env.le_put hid _)⟩ (fun _ _ _ _ _ _ _ e => by cases e)
      refine ⟨_, .iface p.1 (.map (some w.heap.size)), _, ?_, ?_, k1, k2⟩
      · rw [hk, Sem.run_bind, clone_run g5, Result.andThen_ok, Sem.run_pure]
      · simp [conc, Env.put_same]
omit K in
theorem asFunc_eq {v : Value} {p : FuncId × List Value × List Value} (h : asFunc v = some p) : v = .func (.func p.1) ⟨p.2.1⟩ ⟨p.2.2⟩ := by
  unfold asFunc at h
  split at h <;> cases h
  rfl
theorem callV_sound (R : Rep ρ H B w) (hr : Rel C ρ l tm a) (hid : ρ id = none) {f : Operand} {args : Array Operand} {ts : Array TypeId} {t : TypeId} {r : ORes} (h : callV f args.toList C l tm id H = some r) :
    Post C id ρ H B w (do let d ← resolve a.eval ⟨.value f, args, ts⟩ t; invoke d.target d.args) r := by
  obtain ⟨vs, h1, h⟩ := ob_eq_some h
  obtain ⟨v, h2, h⟩ := ob_eq_some h
  obtain ⟨p, h3, h⟩ := ob_eq_some h
  have hv := look_sound hr h2
  rw [asFunc_eq h3] at hv
  have hvs := looks_sound hr h1
  cases hc1 : concL ρ p.2.1 with
  | none => simp [conc, concA, hc1] at hv
  | some c1 =>
    cases hc2 : concL ρ p.2.2 with
    | none => simp [conc, concA, hc1, hc2] at hv
    | some c2 =>
      simp [conc, concA, hc1, hc2] at hv
      have := enter_sound (id := id) K R hid h (concL_append hc1 (concL_append hvs hc2))
      have he : (do let d ← resolve a.eval ⟨.value f, args, ts⟩ t; invoke d.target d.args : Sem Next) = callFunc p.1 ⟨c1 ++ (args.toList.map a.eval ++ c2)⟩ := by
        simp only [resolve, ← hv, Deferred.ofValue, pure_bind, invoke]
        congr 1
        apply Array.ext'
        simp
      rw [he]
      exact this
omit K in
theorem looks_len : ∀ {xs : List Operand} {vs : List Value}, looks l tm xs = some vs → vs.length = xs.length
  | [], vs, h => by
    have h : some [] = some vs := h
    cases h; rfl
  | x :: xs, vs, h => by
    obtain ⟨v, h1, h2⟩ := ob_eq_some (o := look x l tm) (k := fun v => ob (looks l tm xs) fun vs => some (v :: vs)) h
    obtain ⟨us, h3, h4⟩ := ob_eq_some h2
    cases h4
    simp [looks_len h3]
omit K in
theorem asPt_eq {d : TypeDesc} {e : TypeId} (h : asPt d = some e) : d = .pointer e := by cases d <;> simp [asPt] at h; subst h; rfl
omit K in
theorem run_loadInts {P : Program} (c : Nat) : ∀ (ns : List Int) (o : Nat) (acc : ByteArray) (w : World), (∀ j n, ns[j]? = some n → w.cell? ⟨c, o + j, none⟩ = some (.int .u8 n)) →
    (loadBytes ⟨c, o, none⟩ acc ns.length).run P w = .ok ⟨acc.data ++ (ns.map fun n => UInt8.ofNat n.toNat).toArray⟩ w
  | [], o, acc, w, _ => by simp [loadBytes]
  | n :: ns, o, acc, w, h => by
    have h0 : w.cell? ⟨c, o, none⟩ = some (.int .u8 n) := h 0 n (by simp)
    have ih := run_loadInts (P := P) c ns (o + 1) (acc.push (UInt8.ofNat n.toNat)) w (fun j m hj => by
      have := h (j + 1) m (by simpa using hj)
      rw [show o + 1 + j = o + (j + 1) by omega]
      exact this)
    have ha : Addr.add ⟨c, o, none⟩ 1 = ⟨c, o + 1, none⟩ := addr_add c o 1
    simp only [List.length_cons, loadBytes, Sem.run_bind, run_load, h0, Result.andThen, ha]
    have hu : n.toNat.toUInt8 = UInt8.ofNat n.toNat := rfl
    rw [hu, ih]
    simp [ByteArray.push]
omit K in
theorem freeze_other (w : World) (a : Addr) (n : Nat) : (w.freeze a n).heap.size = w.heap.size ∧ (∀ d, d ≠ a.block → (w.freeze a n).heap[d]? = w.heap[d]?) ∧ (w.freeze a n).os = w.os ∧ (w.freeze a n).tape = w.tape ∧ (w.freeze a n).output = w.output := by
  unfold World.freeze
  split
  · exact ⟨rfl, fun _ _ => rfl, rfl, rfl, rfl⟩
  · refine ⟨by simp, fun d hd => ?_, rfl, rfl, rfl⟩
    simp [Array.getElem?_modify, Ne.symm hd]
omit K in
theorem sliceData_sound (R : Rep ρ H B w) {x : Option Addr} {n c : Nat} {x' : Value} {r : ORes} (h : sliceDataE H c x = some r) (hx : conc ρ (.slice x n c) = some x') (ts : Array TypeId) (t : TypeId) :
    Post C id ρ H B w (do pure (.value (← Builtin.unsafeSliceData_ ts t #[x']))) r := by
  unfold sliceDataE at h
  split at h
  · cases h
    simp [conc] at hx
    subst hx
    exact Val.post R ⟨.pointer none, rfl, by simp [conc]⟩
  · rename_i b off sp
    obtain ⟨h1, h⟩ := og_eq_some h
    cases h
    have h1 : 1 ≤ c := Nat.le_of_ble_eq_true h1
    cases hb : ρ b with
    | none => simp [conc, concSlice, hb] at hx
    | some l =>
      have hc : ∃ c', x' = .slice (some ⟨l.blk, l.sh + off, none⟩) n c' ∧ c' ≠ 0 := by
        cases sp <;> simp [conc, concSlice, hb] at hx <;> exact ⟨_, hx.symm, by omega⟩
      obtain ⟨c', rfl, hc⟩ := hc
      obtain ⟨c', rfl⟩ : ∃ k, c' = k + 1 := ⟨c' - 1, by omega⟩
      exact Val.post R ⟨.pointer (some ⟨l.blk, l.sh + off, none⟩), rfl, by simp [conc, concAddr, hb]⟩
omit K in
theorem unsafeString_none (ts : Array TypeId) (ty : TypeId) (x : Value) {pt : TypeId} (h : ts[0]? = some pt) : Builtin.unsafeString_ ts ty #[.pointer none, x] = (do
    let n ← Go.asInt x
    if n < 0 then runtimePanic (.error "unsafe.String: len out of range")
    if n > IntKind.i64.max then unsupported (.unsafePointer "String: a length above the largest int")
    if n = 0 then pure (.string .empty)
    else runtimePanic (.error "unsafe.String: ptr is nil and len is not zero")) := by
  have : Builtin.unsafeString_ ts ty #[.pointer none, x] = (do
    let n ← Go.asInt x
    let some _ := ts[0]? | stuck "unsafe.String: no argument types"
    if n < 0 then runtimePanic (.error "unsafe.String: len out of range")
    if n > IntKind.i64.max then unsupported (.unsafePointer "String: a length above the largest int")
    if n = 0 then pure (.string .empty)
    else runtimePanic (.error "unsafe.String: ptr is nil and len is not zero")) := rfl
  rw [this, h]
omit K in
theorem unsafeString_some (ts : Array TypeId) (ty : TypeId) (x : Value) (a : Addr) {pt : TypeId} (h : ts[0]? = some pt) : Builtin.unsafeString_ ts ty #[.pointer (some a), x] = (do
    let n ← Go.asInt x
    if n < 0 then runtimePanic (.error "unsafe.String: len out of range")
    if n > IntKind.i64.max then unsupported (.unsafePointer "String: a length above the largest int")
    if n = 0 then pure (.string .empty)
    else if ← variablesAt a (← elemOf pt) n.toNat then do
      let s ← loadBytes a .empty n.toNat
      freeze a n.toNat
      pure (.string s)
    else unsupported (.unsafePointer "String: not so many bytes at ptr")) := by
  have : Builtin.unsafeString_ ts ty #[.pointer (some a), x] = (do
    let n ← Go.asInt x
    let some pt := ts[0]? | stuck "unsafe.String: no argument types"
    if n < 0 then runtimePanic (.error "unsafe.String: len out of range")
    if n > IntKind.i64.max then unsupported (.unsafePointer "String: a length above the largest int")
    if n = 0 then pure (.string .empty)
    else if ← variablesAt a (← elemOf pt) n.toNat then do
      let s ← loadBytes a .empty n.toNat
      freeze a n.toNat
      pure (.string s)
    else unsupported (.unsafePointer "String: not so many bytes at ptr")) := rfl
  rw [this, h]
theorem string_sound (R : Rep ρ H B w) {x : Option Addr} {t : TypeId} {n : Nat} {k : IntKind} {x' : Value} {r : ORes} (h : stringE C H t n x = some r) (hx : conc ρ (.pointer x) = some x') (ts : List TypeId) (ty : TypeId) :
    Post C id ρ H B w (do pure (.value (← Builtin.unsafeString_ ⟨t :: ts⟩ ty #[x', .int k (n : Int)]))) r := by
  have hmx : IntKind.i64.max = 9223372036854775807 := rfl
  unfold stringE at h
  split at h
  · obtain ⟨h1, h⟩ := og_eq_some h
    cases h
    have h1 : n = 0 := Nat.eq_of_beq_eq_true h1
    subst h1
    simp [conc] at hx
    subst hx
    refine Val.post R ⟨.string .empty, ?_, by simp [conc]; rfl⟩
    rw [unsafeString_none ⟨t :: ts⟩ ty _ (pt := t) rfl]
    simp [Go.asInt, asIntOf, hmx]
  · rename_i b off
    split at h
    · rename_i h1
      cases h
      have h1 : n = 0 := Nat.eq_of_beq_eq_true h1
      subst h1
      obtain ⟨l, hb, rfl⟩ := conc_ptr hx
      refine Val.post R ⟨.string .empty, ?_, by simp [conc]; rfl⟩
      rw [unsafeString_some ⟨t :: ts⟩ ty _ _ (pt := t) rfl]
      simp [Go.asInt, asIntOf, hmx]
    · rename_i h1
      have h1 : n ≠ 0 := Nat.ne_of_beq_eq_false h1
      obtain ⟨h2, h⟩ := og_eq_some h
      have h2 : n ≤ 9223372036854775807 := Nat.le_of_ble_eq_true h2
      obtain ⟨d, h3, h⟩ := ob_eq_some h
      obtain ⟨u, h4, h⟩ := ob_eq_some h
      obtain ⟨j, h5, h⟩ := ob_eq_some h
      obtain ⟨h6, h⟩ := og_eq_some h
      have h6 : j.size = 1 := Nat.eq_of_beq_eq_true h6
      obtain ⟨kb, h7, h⟩ := ob_eq_some h
      obtain ⟨c, h8, h⟩ := ob_eq_some h
      obtain ⟨h9, h⟩ := og_eq_some h
      have h9 : c.esz.el = u := Nat.eq_of_beq_eq_true h9
      obtain ⟨xs, h10, h⟩ := ob_eq_some h
      obtain ⟨bs, h11, h⟩ := ob_eq_some h
      cases h
      have := asPt_eq h4
      subst this
      have := asRw_eq h8
      subst this
      obtain ⟨l, hb, arr, el, lo, hi, e2, e3, _, e4, _⟩ := CB.at_ R h7
      obtain ⟨l', xs', g1, g2, g3, g4⟩ := rdN_sound R h10
      rw [hb] at g1
      cases g1
      have hp := intsOf_plain h11
      rw [concL_plain ρ hp] at g2
      cases g2
      obtain ⟨ns, f1, f2⟩ := intsOf_eq h11
      obtain ⟨l2, hb2, rfl⟩ := conc_ptr hx
      rw [hb] at hb2
      cases hb2
      have hlen : ns.length = n := by rw [← g3, f1]; simp
      have hsh : w.shape? l.blk = some (el, arr.size) := shape_of e2
      have heu : el = u := e4.trans h9
      rw [heu] at hsh
      have hc1 : C.P.cellsOf u = 1 := by rw [K.cellsOf h5, h6]
      have hin : l.sh + off + n ≤ arr.size := by
        have hlt : n - 1 < xs.length := by omega
        have hlast := g4 (n - 1) (xs[n - 1]'hlt) (List.getElem?_eq_getElem hlt)
        have hcell : w.cell? ⟨l.blk, l.sh + off + (n - 1), none⟩ = arr[l.sh + off + (n - 1)]? := by simp [World.cell?, e2]
        rw [hcell] at hlast
        have := (Array.getElem?_eq_some_iff.1 hlast).1
        omega
      have hl : liesAt C.P C.P.depth u (arr.size / C.P.cellsOf u) (l.sh + off) u n = true := by
        refine liesAt_row hc1 (by omega) (by omega) ?_
        rw [hc1, Nat.div_one, Nat.div_one]
        exact hin
      have hload := run_loadInts (P := C.P) l.blk ns (l.sh + off) .empty w (fun i m hm => g4 i (.int .u8 m) (by rw [f1]; simp [hm]))
      rw [hlen] at hload
      have hstr : (⟨ByteArray.empty.data ++ (ns.map fun n => UInt8.ofNat n.toNat).toArray⟩ : ByteArray) = ⟨⟨bs⟩⟩ := by rw [f2]; simp
      rw [hstr] at hload
      obtain ⟨q1, q2, q3, q4, q5⟩ := freeze_other w ⟨l.blk, l.sh + off, none⟩ n
      obtain ⟨r1, r2⟩ := dead_sound R h7 hb id q1 q2 q3 q4 q5
      refine ⟨ρ, .string ⟨⟨bs⟩⟩, w.freeze ⟨l.blk, l.sh + off, none⟩ n, ?_, by simp [conc], r1, r2⟩
      have hneg : ¬ ((n : Int) < 0) := by omega
      have hmax : ¬ ((9223372036854775807 : Int) < n) := by omega
      have hn0 : ¬ ((n : Int) = 0) := by omega
      have hel : (elemOf t).run C.P w = .ok u w := by simp [elemOf, K.run_und h3 w]
      have hva := run_variablesAt (P := C.P) (w := w) (a := ⟨l.blk, l.sh + off, none⟩) (u := u) (k := n) hsh
      rw [hl] at hva
      have hfr : (freeze ⟨l.blk, l.sh + off, none⟩ n).run C.P w = .ok () (w.freeze ⟨l.blk, l.sh + off, none⟩ n) := rfl
      rw [unsafeString_some ⟨t :: ts⟩ ty _ _ (pt := t) rfl]
      simp [Go.asInt, asIntOf, hmx, hneg, hmax, h1, hel, hva, hload, hfr, Result.andThen]
  · cases h
theorem callB_sound (R : Rep ρ H B w) (hr : Rel C ρ l tm a) (hid : ρ id = none) {b : Builtin} {args : Array Operand} {ts : Array TypeId} {t : TypeId} {r : ORes} (h : callB b args.toList ts.toList C l tm id H = some r) :
    Post C id ρ H B w (do let d ← resolve a.eval ⟨.builtin b, args, ts⟩ t; invoke d.target d.args) r := by
  obtain ⟨tl⟩ := ts
  obtain ⟨vs, h1, h0⟩ := ob_eq_some h
  clear h
  have h : builtinE C H id b vs tl = some r := h0
  clear h0
  have hvs := looks_sound hr h1
  have he : ∀ vs' : List Value, args.toList.map a.eval = vs' → args.map a.eval = ⟨vs'⟩ := by
    intro vs' e
    apply Array.ext'
    simp [e]
  unfold builtinE at h
  split at h
  all_goals first | (cases h; done) | skip
  · rename_i x t0
    obtain ⟨v, g1, h⟩ := ob_eq_some h
    cases h
    obtain ⟨hl, hg⟩ := concL_iff.1 hvs
    match hm : args.toList.map a.eval, hl with
    | [x'], _ =>
      rw [hm] at hvs
      have hx : conc ρ x = some x' := by
        obtain ⟨y, e1, e2⟩ := hg 0 x (by simp)
        rw [hm] at e1
        simp at e1
        rw [e1]; exact e2
      have := Val.post (id := id) R (lenOp_sound K R (ty := t) g1 hx)
      simp only [resolve, he _ hm, pure_bind, invoke, builtin]
      exact this
  · rename_i s x t0 t1
    obtain ⟨hl, hg⟩ := concL_iff.1 hvs
    match hm : args.toList.map a.eval, hl with
    | [s', x'], _ =>
      rw [hm] at hg
      obtain ⟨y, e1, e2⟩ := hg 0 s (by simp)
      obtain ⟨z, e3, e4⟩ := hg 1 x (by simp)
      simp at e1 e3
      subst e1 e3
      have := append_sound K R hid (ty := t) h e2 e4
      simp only [resolve, he _ hm, pure_bind, invoke, builtin]
      exact this
  · rename_i s x t0 t1
    obtain ⟨hl, hg⟩ := concL_iff.1 hvs
    match hm : args.toList.map a.eval, hl with
    | [s', x'], _ =>
      rw [hm] at hg
      obtain ⟨y, e1, e2⟩ := hg 0 s (by simp)
      obtain ⟨z, e3, e4⟩ := hg 1 x (by simp)
      simp at e1 e3
      subst e1 e3
      have := copy_sound (id := id) K R (ty := t) (ts := t1) h e2 e4
      simp only [resolve, he _ hm, pure_bind, invoke, builtin]
      exact this
  · rename_i s x t0 t1
    obtain ⟨H', g1, h⟩ := ob_eq_some h
    cases h
    obtain ⟨hl, hg⟩ := concL_iff.1 hvs
    match hm : args.toList.map a.eval, hl with
    | [s', x'], _ =>
      rw [hm] at hg
      obtain ⟨y, e1, e2⟩ := hg 0 s (by simp)
      obtain ⟨z, e3, e4⟩ := hg 1 x (by simp)
      simp at e1 e3
      subst e1 e3
      have := delete_sound (id := id) K R (ty := t) (ts := t1) g1 e2 e4
      simp only [resolve, he _ hm, pure_bind, invoke, builtin]
      exact this
  · rename_i s t0 t1
    obtain ⟨H', g1, h⟩ := ob_eq_some h
    cases h
    obtain ⟨hl, hg⟩ := concL_iff.1 hvs
    match hm : args.toList.map a.eval, hl with
    | [s'], _ =>
      rw [hm] at hg
      obtain ⟨y, e1, e2⟩ := hg 0 s (by simp)
      simp at e1
      subst e1
      have := clear_sound (id := id) K R (ty := t) (ts := t1) g1 e2
      simp only [resolve, he _ hm, pure_bind, invoke, builtin]
      exact this
  · rename_i t0 a0 n0 c0
    obtain ⟨hl, hg⟩ := concL_iff.1 hvs
    match hm : args.toList.map a.eval, hl with
    | [s'], _ =>
      rw [hm] at hg
      obtain ⟨y, e1, e2⟩ := hg 0 (.slice a0 n0 c0) (by simp)
      simp at e1
      subst e1
      simp only [resolve, he _ hm, pure_bind, invoke, builtin]
      exact sliceData_sound R h e2 _ _
  · rename_i a0 n0 t0 t1
    obtain ⟨n, g1, h⟩ := ob_eq_some h
    obtain ⟨k, rfl⟩ := asNat_eq g1
    obtain ⟨hl, hg⟩ := concL_iff.1 hvs
    match hm : args.toList.map a.eval, hl with
    | [s', x'], _ =>
      rw [hm] at hg
      obtain ⟨u, e1, e2⟩ := hg 0 (.pointer a0) (by simp)
      obtain ⟨z, e3, e4⟩ := hg 1 (.int k n) (by simp)
      rw [conc_int] at e4
      simp at e1 e3
      subst e1 e3
      cases e4
      simp only [resolve, he _ hm, pure_bind, invoke, builtin]
      exact string_sound K R h e2 _ _
  · rename_i t0 k x k' y
    cases h
    obtain ⟨hl, hg⟩ := concL_iff.1 hvs
    match hm : args.toList.map a.eval, hl with
    | [s', x'], _ =>
      rw [hm] at hg
      obtain ⟨u, e1, e2⟩ := hg 0 (.int k x) (by simp)
      obtain ⟨z, e3, e4⟩ := hg 1 (.int k' y) (by simp)
      simp [conc] at e1 e3 e2 e4
      subst e1 e3 e2 e4
      refine ⟨ρ, _, w, ?_, by rw [conc_int], R, Stp.refl _ _ _ _⟩
      simp only [resolve, he _ hm, pure_bind, invoke, builtin, Builtin.max_]
      by_cases hxy : x < y
      · simp [List.foldlM, Builtin.max2, hxy]
      · simp [List.foldlM, Builtin.max2, hxy]
  · rename_i t0 k x k' y
    cases h
    obtain ⟨hl, hg⟩ := concL_iff.1 hvs
    match hm : args.toList.map a.eval, hl with
    | [s', x'], _ =>
      rw [hm] at hg
      obtain ⟨u, e1, e2⟩ := hg 0 (.int k x) (by simp)
      obtain ⟨z, e3, e4⟩ := hg 1 (.int k' y) (by simp)
      simp [conc] at e1 e3 e2 e4
      subst e1 e3 e2 e4
      refine ⟨ρ, _, w, ?_, by rw [conc_int], R, Stp.refl _ _ _ _⟩
      simp only [resolve, he _ hm, pure_bind, invoke, builtin, Builtin.min_]
      by_cases hxy : y < x
      · simp [List.foldlM, Builtin.min2, hxy]
      · simp [List.foldlM, Builtin.min2, hxy]
theorem opCall_sound (R : Rep ρ H B w) (hr : Rel C ρ l tm a) (hid : ρ id = none) {c : Call} {t : TypeId} {r : ORes} (h : callE c C l tm id H = some r) :
    Post C id ρ H B w (do let d ← resolve a.eval c t; invoke d.target d.args) r := by
  obtain ⟨f, args, ts⟩ := c
  cases f with
  | value f => exact callV_sound K R hr hid h
  | invoke _ _ => cases h
  | builtin b => exact callB_sound K R hr hid h
theorem opInsert_sound (R : Rep ρ H B w) (hr : Rel C ρ l tm a) {t : TypeId} {m k v : Operand} {r : ORes} (h : opInsert t m k v C l tm id H = some r) :
    Post C id ρ H B w (do Instr.mapUpdate t (a.eval m) (a.eval k) (a.eval v); pure .skip) r := by
  obtain ⟨H', h1, rfl⟩ := wrap0_eq h
  obtain ⟨m', h2, h3⟩ := ob_eq_some h1
  obtain ⟨k', h4, h5⟩ := ob_eq_some h3
  obtain ⟨v', h6, h7⟩ := ob_eq_some h5
  obtain ⟨w', g1, g2, g3⟩ := mapSet_sound K R h7 (look_sound hr h2) (look_sound hr h4) (look_sound hr h6) id
  exact ⟨ρ, w', by simp [g1], g2, g3⟩
theorem opLookup_sound (R : Rep ρ H B w) (hr : Rel C ρ l tm a) {t : TypeId} {x k : Operand} {ok : Bool} {r : ORes} (h : opLookup t x k ok C l tm id H = some r) :
    Post C id ρ H B w (do pure (.value (← Instr.lookup t (a.eval x) (a.eval k) ok))) r := by
  obtain ⟨v, h1, rfl⟩ := wrap1_eq h
  obtain ⟨x', h2, h3⟩ := ob_eq_some h1
  obtain ⟨k', h4, h5⟩ := ob_eq_some h3
  exact Val.post R (lookup_sound K R h5 (look_sound hr h2) (look_sound hr h4))
theorem op_sound (R : Rep ρ H B w) (hr : Rel C ρ l tm a) (hid : ρ id = none) {o : Oper} {r : ORes} (h : opSel o.op C l tm id H = some r) : Post C id ρ H B w (execOp a.eval o) r := by
  obtain ⟨dst, op, type, pos, after, guard⟩ := o
  cases op <;> simp only [] at h
  case move x => exact opMove_sound R hr h
  case assign x => exact opMove_sound R hr h
  case pick c x y => exact opPick_sound R hr h
  case alloc t => exact opAlloc_sound (l := l) (tm := tm) K R hid h
  case box t x => exact opBox_sound R hr hid h
  case build t ps => exact opBuild_sound K R hr h
  case buildSlice t n ps => exact opBuildSlice_sound K R hr hid h
  case insert t m k v => exact opInsert_sound K R hr h
  case load t x => exact opLoad_sound K R hr h
  case store t x y => exact opStore_sound K R hr h
  case nilCheck x =>
    obtain ⟨b, h1, h2⟩ := opNilCheck_sound R hr h
    have he : execOp a.eval ⟨dst, .nilCheck x, type, pos, after, guard⟩ = pure (.value (a.eval x)) := by
      simp only [execOp, h1]
    rw [he]
    exact h2
  case binOp op t x y u => exact opBin_sound (u := u) K R hr h
  case unOp op t x => exact opUn_sound (t := t) R hr h
  case convert s d x => exact opConvert_sound K R hr hid h
  case makeInterface t x => exact opMakeIface_sound K R hr h
  case makeFunc f x y => exact opMakeFunc_sound R hr h
  case makeMap t x => exact makeMap_sound (l := l) (tm := tm) R hid h
  case makeSlice t n c => exact opMakeSlice_sound K R hr hid h
  case slice t x lo hi mx => exact opSlice_sound K R hr h
  case fieldAddr t x f => exact opFieldAddr_sound K R hr h
  case field t x f => exact opField_sound K R hr h
  case indexAddr t x i => exact opIndexAddr_sound K R hr h
  case index t x i => exact opIndex_sound K R hr h
  case lookup t x k ok => exact opLookup_sound K R hr h
  case mapUpdate t m k v => exact opInsert_sound K R hr h
  case extract x i => exact opExtract_sound R hr h
  case typeAssert x t s ok => exact opAssert_sound K R hr h
  case call c => exact opCall_sound K R hr hid h
  all_goals cases h
end
end Go.Ax

namespace Go.Ax
abbrev Std (ρ : Env) (H : Heap) (w : World) (ρ' : Env) (H' : Heap) (w' : World) : Prop := Stp H.next ρ H w ρ' H' w'
theorem Std.trans {ρ ρ1 ρ2 : Env} {H H1 H2 : Heap} {w w1 w2 : World} (h : Std ρ H w ρ1 H1 w1) (k : Std ρ1 H1 w1 ρ2 H2 w2) : Std ρ H w ρ2 H2 w2 :=
  Stp.trans h (Stp.any k (Nat.le_refl _))
def Low (ρ : Env) (H : Heap) : Prop := ∀ b l, ρ b = some l → b < H.next
structure Good (ρ : Env) (H : Heap) (B : Nat) (w : World) : Prop where
  rep : Rep ρ H B w
  low : Low ρ H
  lowb : ∀ b k, H.blks.get b = some k → b < H.next
theorem Low.step {x : Nat} {ρ ρ' : Env} {H H' : Heap} {w w' : World} (h : Low ρ H) (S : Stp x ρ H w ρ' H' w') : Low ρ' H' := by
  intro b l e
  cases h0 : ρ b with
  | some l0 => exact Nat.lt_of_lt_of_le (h b l0 h0) S.mono
  | none => exact (S.new b l e h0).2
theorem Good.step {x B : Nat} {ρ ρ' : Env} {H H' : Heap} {w w' : World} (h : Good ρ H B w) (R : Rep ρ' H' B w') (S : Stp x ρ H w ρ' H' w') : Good ρ' H' B w' := by
  refine ⟨R, h.low.step S, ?_⟩
  intro b k hb
  rcases S.blk b k hb with ⟨k0, g⟩ | ⟨_, g⟩
  · exact Nat.lt_of_lt_of_le (h.lowb b k0 g) S.mono
  · exact g
def GlobOk (C : Ctx) (ρ : Env) : Prop := ∀ g, g < C.ng → ∃ e, ρ g = some ⟨g, 0, e⟩
theorem GlobOk.mono {C : Ctx} {ρ ρ' : Env} (h : GlobOk C ρ) (k : ρ.le ρ') : GlobOk C ρ' := fun g hg => let ⟨e, he⟩ := h g hg; ⟨e, k g _ he⟩
def CallPost (ρ : Env) (H : Heap) (B : Nat) (w : World) (v : Value) (H' : Heap) (e : Ending) (w' : World) : Prop :=
  ∃ ρ' v', e = .returned v' ∧ conc ρ' v = some v' ∧ Rep ρ' H' B w' ∧ Std ρ H w ρ' H' w'
def CallOk (C : Ctx) (B : Nat) (call : FuncId → List Value → Heap → CRes) : Prop :=
  ∀ f args H v H', call f args H = .ok v H' → ∀ ρ args' w, concL ρ args = some args' → Good ρ H B w → GlobOk C ρ → Calls C.P f ⟨args'⟩ w (CallPost ρ H B w v H')
structure TmOk (C : Ctx) (ρ : Env) (u : T Unit) (tm : T Value) (a : Act) (nt : Nat) : Prop where
  used : ∀ t v, tm.get t = some v → u.get t ≠ none
  rel : Rel C ρ (.nil C.ng) tm a
  size : a.tmps.size = nt
  defers : a.defers = []
structure LvOk (C : Ctx) (ρ : Env) (ops : List Oper) (l : LV) (tm : T Value) (a : Act) (nt : Nat) : Prop where
  rel : Rel C ρ l tm a
  size : a.tmps.size = nt
  defers : a.defers = []
  mine : ∀ t, l.find t none ≠ none → ∃ o ∈ ops, o.dst = some t
theorem TmOk.mono {C : Ctx} {ρ ρ' : Env} {u : T Unit} {tm : T Value} {a : Act} {nt : Nat} (h : TmOk C ρ u tm a nt) (k : ρ.le ρ') : TmOk C ρ' u tm a nt := ⟨h.used, h.rel.mono k, h.size, h.defers⟩
theorem LvOk.mono {C : Ctx} {ρ ρ' : Env} {ops : List Oper} {l : LV} {tm : T Value} {a : Act} {nt : Nat} (h : LvOk C ρ ops l tm a nt) (k : ρ.le ρ') : LvOk C ρ' ops l tm a nt := ⟨h.rel.mono k, h.size, h.defers, h.mine⟩
theorem TmOk.start {C : Ctx} {ρ : Env} {u : T Unit} {tm : T Value} {a : Act} {nt : Nat} (h : TmOk C ρ u tm a nt) (ops : List Oper) : LvOk C ρ ops (.nil C.ng) tm a nt :=
  ⟨h.rel, h.size, h.defers, fun _ h => absurd rfl h⟩
theorem LV.find_cons (t' : Nat) (v : Value) (r : LV) (t : Nat) (d : Option Value) : (LV.cons t' v r).find t d = if t = t' then some v else r.find t d := by
  show Bool.rec (motive := fun _ => Option Value) (r.find t d) (some v) (Nat.beq t t') = _
  cases h : Nat.beq t t' with
  | true => rw [if_pos (Nat.eq_of_beq_eq_true h)]
  | false => rw [if_neg (Nat.ne_of_beq_eq_false h)]
theorem LV.find_dflt : ∀ (l : LV) (t : Nat) (d : Option Value), l.find t d = match l.find t none with | some v => some v | none => d
  | .nil _, t, d => rfl
  | .cons t' v r, t, d => by
    rw [LV.find_cons, LV.find_cons]
    by_cases h : t = t'
    · simp [h]
    · simp only [h, if_false]; exact LV.find_dflt r t d
theorem Rel.put {C : Ctx} {ρ : Env} {l : LV} {tm : T Value} {a : Act} (h : Rel C ρ l tm a) {d : Nat} (hd : d < a.tmps.size) {v v' : Value} (hv : conc ρ v = some v') : Rel C ρ (.cons d v l) tm (a.put (some d) v') where
  tmps := fun t x e => by
    unfold lookTmp at e
    rw [LV.find_cons] at e
    by_cases ht : t = d
    · rw [if_pos ht] at e
      cases e
      subst ht
      exact ⟨v', by simp [Act.put, hd], hv⟩
    · rw [if_neg ht] at e
      obtain ⟨x', h1, h2⟩ := h.tmps t x e
      exact ⟨x', by simp [Act.put, Array.getElem?_setIfInBounds_ne (Ne.symm ht), h1], h2⟩
  glob := h.glob
  ng := h.ng
theorem put_size (a : Act) (dst : Option Tmp) (v : Value) : (a.put dst v).tmps.size = a.tmps.size := by cases dst <;> simp [Act.put]
theorem put_defers (a : Act) (dst : Option Tmp) (v : Value) : (a.put dst v).defers = a.defers := by cases dst <;> rfl
theorem putE_sound {C : Ctx} {ρ : Env} {ops : List Oper} {o : Oper} (ho : o ∈ ops) {l : LV} {tm : T Value} {a : Act} {nt : Nat} (h : LvOk C ρ ops l tm a nt) {v v' : Value} (hv : conc ρ v = some v') {k : LV → Res} {e : Ex} {tm' : T Value} {H' : Heap}
    (hk : putE nt o.dst v l k = .mk e tm' H') : ∃ l', k l' = .mk e tm' H' ∧ LvOk C ρ ops l' tm (a.put o.dst v') nt ∧ l' = (match o.dst with | some d => .cons d v l | none => l) := by
  cases hd : o.dst with
  | none =>
    rw [hd] at hk
    exact ⟨l, hk, h, rfl⟩
  | some d =>
    rw [hd] at hk
    replace hk : Bool.rec (motive := fun _ => Res) .none (k (.cons d v l)) (Nat.ble (Nat.succ d) nt) = .mk e tm' H' := hk
    cases hb : Nat.ble (Nat.succ d) nt with
    | false => rw [hb] at hk; cases hk
    | true =>
      rw [hb] at hk
      have hlt : d < a.tmps.size := by rw [h.size]; exact Nat.le_of_ble_eq_true hb
      refine ⟨.cons d v l, hk, ⟨h.rel.put hlt hv, by rw [put_size]; exact h.size, by rw [put_defers]; exact h.defers, ?_⟩, rfl⟩
      intro t ht
      rw [LV.find_cons] at ht
      by_cases htd : t = d
      · subst htd; exact ⟨o, ho, hd⟩
      · rw [if_neg htd] at ht; exact h.mine t ht
theorem flush_get (l : LV) (tm : T Value) : ∀ (fl : List Nat) (t : Nat), (flush fl l tm).get t = if t ∈ fl then l.find t (tm.get t) else tm.get t
  | [], t => by simp; rfl
  | x :: fl, t => by
    have hstep : flush (x :: fl) l tm = Option.rec (motive := fun _ => T Value) (flush fl l tm) (fun v => (flush fl l tm).set x (some v)) (l.find x none) := rfl
    rw [hstep]
    have ih := flush_get l tm fl
    cases hf : l.find x none with
    | none =>
      simp only []
      rw [ih t]
      by_cases hx : t = x
      · subst hx
        have : l.find t (tm.get t) = tm.get t := by rw [LV.find_dflt, hf]
        simp [this]
      · simp [hx]
    | some v =>
      simp only []
      by_cases hx : t = x
      · subst hx
        have : l.find t (tm.get t) = some v := by rw [LV.find_dflt, hf]
        rw [T.get_set_same]
        simp [this]
      · rw [T.get_set_ne _ _ hx, ih t]
        simp [hx]
theorem flOf_mem (u : T Unit) : ∀ (ops : List Oper) (seen : T Unit) (o : Oper) (d : Nat), o ∈ ops → o.dst = some d → u.get d ≠ none → d ∈ flOf u ops seen ∨ seen.get d ≠ none
  | [], _, o, d, h, _, _ => by cases h
  | x :: ops, seen, o, d, h, hd, hu => by
    have hrest : ∀ seen', o ∈ ops → d ∈ flOf u ops seen' ∨ seen'.get d ≠ none := fun seen' h => flOf_mem u ops seen' o d h hd hu
    rw [flOf]
    rcases List.mem_cons.1 h with rfl | h
    · rw [hd]
      simp only []
      cases hg : u.get d with
      | none => exact absurd hg hu
      | some y =>
        simp only []
        cases hs : seen.get d with
        | some z => exact .inr (by simp)
        | none => exact .inl (by simp)
    · cases hxd : x.dst with
      | none => exact hrest seen h
      | some e =>
        simp only []
        cases hg : u.get e with
        | none => exact hrest seen h
        | some y =>
          simp only []
          cases hs : seen.get e with
          | some z => exact hrest seen h
          | none =>
            simp only []
            by_cases hde : d = e
            · subst hde; exact .inl (by simp)
            · rcases hrest (seen.set e (some ())) h with h1 | h1
              · exact .inl (List.mem_cons_of_mem _ h1)
              · rw [T.get_set_ne _ _ hde] at h1; exact .inr h1
theorem flOf_used (u : T Unit) : ∀ (ops : List Oper) (seen : T Unit) (d : Nat), d ∈ flOf u ops seen → u.get d ≠ none
  | [], _, d, h => by cases h
  | x :: ops, seen, d, h => by
    rw [flOf] at h
    cases hxd : x.dst with
    | none => rw [hxd] at h; exact flOf_used u ops seen d h
    | some e =>
      rw [hxd] at h
      simp only [] at h
      cases hg : u.get e with
      | none => rw [hg] at h; exact flOf_used u ops seen d h
      | some y =>
        rw [hg] at h
        simp only [] at h
        cases hs : seen.get e with
        | some z => rw [hs] at h; exact flOf_used u ops seen d h
        | none =>
          rw [hs] at h
          rcases List.mem_cons.1 h with rfl | h
          · rw [hg]; simp
          · exact flOf_used u ops _ d h
theorem LvOk.flush {C : Ctx} {ρ : Env} {u : T Unit} {ops : List Oper} {l : LV} {tm : T Value} {a : Act} {nt : Nat} (h : LvOk C ρ ops l tm a nt) (hu : ∀ t v, tm.get t = some v → u.get t ≠ none) :
    TmOk C ρ u (flush (flOf u ops .nil) l tm) a nt := by
  refine ⟨?_, ⟨?_, h.rel.glob, rfl⟩, h.size, h.defers⟩
  · intro t v e
    rw [flush_get] at e
    by_cases hf : t ∈ flOf u ops .nil
    · exact flOf_used u ops .nil t hf
    · rw [if_neg hf] at e; exact hu t v e
  · intro t v e
    replace e : (Go.Ax.flush (flOf u ops .nil) l tm).get t = some v := e
    rw [flush_get] at e
    apply h.rel.tmps t v
    by_cases hf : t ∈ flOf u ops .nil
    · rw [if_pos hf] at e; exact e
    · rw [if_neg hf] at e
      have : l.find t none = none := by
        cases hx : l.find t none with
        | none => rfl
        | some y =>
          obtain ⟨o, ho, hd⟩ := h.mine t (by rw [hx]; simp)
          rcases flOf_mem u ops .nil o t ho hd (hu t v e) with g | g
          · exact absurd g hf
          · exact absurd rfl g
      unfold lookTmp
      rw [LV.find_dflt, this]
      exact e
def exOf : Ex → Exit
  | .normal => .normal
  | .exit id => .exit id
  | .ret => .ret
def CodePost (C : Ctx) (B nt : Nat) (u : T Unit) (ρ : Env) (H : Heap) (w : World) (tm' : T Value) (H' : Heap) (a' : Act) (w' : World) : Prop :=
  ∃ ρ', Good ρ' H' B w' ∧ TmOk C ρ' u tm' a' nt ∧ Std ρ H w ρ' H' w'
def CodeOk (C : Ctx) (B nt : Nat) (u : T Unit) (code : Code) (R : T Value → Heap → Res) : Prop :=
  ∀ tm H e tm' H', R tm H = .mk e tm' H' → ∀ ρ a w (Q : Exit → Act → World → Prop), Good ρ H B w → TmOk C ρ u tm a nt → (∀ a' w', CodePost C B nt u ρ H w tm' H' a' w' → Q (exOf e) a' w') → code.wp C.P Q a w
theorem wantG_sound {C : Ctx} {ρ : Env} {l : LV} {tm : T Value} {a : Act} (hr : Rel C ρ l tm a) {ops : Array Oper} {o : Oper} {g : Nat × Bool} (hg : o.guard = some g) {b : Bool} (h : wantG ops.toList l tm g = some b) : Region.wanted o (yielded ops a.tmps) = b := by
  obtain ⟨p, h1, h2⟩ := ob_eq_some h
  obtain ⟨d, h3, h4⟩ := ob_eq_some h2
  obtain ⟨v, h5, h6⟩ := ob_eq_some h4
  obtain ⟨v', h7, h8⟩ := hr.tmps d v h5
  have hp : ops[g.1]? = some p := by rw [← Array.getElem?_toList]; exact h1
  have hy : yielded ops a.tmps g.1 = match v' with | .bool b => some b | _ => none := by
    simp only [yielded, hp, Option.bind_some, h3, h7]
    cases v' <;> rfl
  simp only [Region.wanted, hg, hy]
  have hcase : (∃ q, v = .bool q) ∨ ∀ q, v ≠ .bool q := by
    cases v with
    | bool q => exact .inl ⟨q, rfl⟩
    | _ => exact .inr fun q e => by cases e
  rcases hcase with ⟨q, rfl⟩ | hno
  · simp [conc] at h8
    subst h8
    cases h6
    obtain ⟨_, g2⟩ := g
    cases q <;> cases g2 <;> rfl
  · have h6' : b = false := by
      cases v <;> first | exact (Option.some.inj h6).symm | exact absurd rfl (hno _)
    subst h6'
    cases v' with
    | bool q =>
      exfalso
      cases v with
      | bool q' => exact hno _ rfl
      | pointer x => cases x <;> simp [conc] at h8; split at h8 <;> cases h8
      | slice x _ _ => cases x <;> simp [conc, concSlice] at h8; split at h8 <;> cases h8
      | map x => cases x <;> simp [conc] at h8; split at h8 <;> cases h8
      | chan x => cases x <;> simp [conc] at h8
      | func fn x y => cases h1 : concA ρ x <;> cases h2 : concA ρ y <;> cases fn <;> simp [conc, h1, h2] at h8
      | iface t x => simp [conc] at h8; split at h8 <;> cases h8
      | agg x => simp [conc] at h8; split at h8 <;> cases h8
      | tuple x => simp [conc] at h8; split at h8 <;> cases h8
      | _ => simp [conc] at h8
    | _ => rfl
theorem undef_conc (ρ : Env) : conc ρ undef = some undef := by simp [undef, conc, concA, concL]
theorem or0_eq {α : Type} {o : Option α} {k : α → Res} {e : Ex} {tm : T Value} {H : Heap} (h : or0 o k = .mk e tm H) : ∃ x, o = some x ∧ k x = .mk e tm H := by
  cases o with
  | none => cases h
  | some x => exact ⟨x, rfl, h⟩
section
variable {C : Ctx} (K : C.Ok) {B nt : Nat} {call : FuncId → List Value → Heap → CRes} (hc : CallOk C B call)
include K hc
theorem regOps_sound {u : T Unit} {ops : Array Oper} {fl : List Nat} {tm : T Value} {e : Ex} {tm' : T Value} {H' : Heap} {Q : Exit → Act → World → Prop} {ρ0 : Env} {H0 : Heap} {w0 : World}
    (hfl : ∀ ρ l a, LvOk C ρ ops.toList l tm a nt → TmOk C ρ u (flush fl l tm) a nt)
    (hQ : ∀ a' w', CodePost C B nt u ρ0 H0 w0 tm' H' a' w' → Q (exOf e) a' w') :
    ∀ (rest : List Oper), (∀ o ∈ rest, o ∈ ops.toList) → ∀ (l : LV) (H : Heap) (ρ : Env) (a : Act) (w : World), regS C call nt ops.toList fl tm rest l H = .mk e tm' H' →
      Good ρ H B w → LvOk C ρ ops.toList l tm a nt → Std ρ0 H0 w0 ρ H w → wpList C.P ops Q rest a w
  | [], _, l, H, ρ, a, w, h, R, L, S => by
    replace h : Res.mk .normal (flush fl l tm) H = .mk e tm' H' := h
    cases h
    exact hQ a w ⟨ρ, R, hfl ρ l a L, S⟩
  | o :: rest, hmem, l, H, ρ, a, w, h, R, L, S => by
    have ho := hmem o (by simp)
    have ih := regOps_sound hfl hQ rest fun x hx => hmem x (by simp [hx])
    have hrun : ∀ l, LvOk C ρ ops.toList l tm a nt → regOp C call nt tm o (regS C call nt ops.toList fl tm rest) l H = .mk e tm' H' → o.wp C.P a w (wpList C.P ops Q rest) Q := by
      intro l L h
      obtain ⟨r, h1, h2⟩ := or0_eq h
      have hid : ρ H.next = none := by
        cases hx : ρ H.next with
        | none => rfl
        | some y => exact absurd (R.low _ _ hx) (Nat.lt_irrefl _)
      have hp := op_sound K R.rep L.rel hid h1
      cases r with
      | val v H1 =>
        obtain ⟨ρ1, v', w1, e1, e2, e3, e4⟩ := hp
        replace h2 : putE nt o.dst v l (fun l => regS C call nt ops.toList fl tm rest l H1) = .mk e tm' H' := h2
        obtain ⟨l', g1, g2, _⟩ := putE_sound ho (L.mono e4.le) e2 h2
        unfold Oper.wp
        rw [e1]
        exact ih l' H1 ρ1 _ w1 g1 (R.step e3 e4) g2 (Std.trans S e4)
      | unit H1 =>
        obtain ⟨ρ1, w1, e1, e3, e4⟩ := hp
        replace h2 : putE nt o.dst undef l (fun l => regS C call nt ops.toList fl tm rest l H1) = .mk e tm' H' := h2
        obtain ⟨l', g1, g2, _⟩ := putE_sound ho (L.mono e4.le) (undef_conc ρ1) h2
        unfold Oper.wp
        rw [e1]
        exact ih l' H1 ρ1 _ w1 g1 (R.step e3 e4) g2 (Std.trans S e4)
      | enter f args =>
        obtain ⟨args', e1, e2⟩ := hp
        unfold Oper.wp
        rw [e1]
        cases hcall : call f args H with
        | none =>
          replace h2 : CRes.rec (motive := fun _ => Res) Res.none (fun v H => putE nt o.dst v l fun l => regS C call nt ops.toList fl tm rest l H) (call f args H) = .mk e tm' H' := h2
          rw [hcall] at h2
          cases h2
        | ok v H1 =>
          replace h2 : CRes.rec (motive := fun _ => Res) Res.none (fun v H => putE nt o.dst v l fun l => regS C call nt ops.toList fl tm rest l H) (call f args H) = .mk e tm' H' := h2
          rw [hcall] at h2
          replace h2 : putE nt o.dst v l (fun l => regS C call nt ops.toList fl tm rest l H1) = .mk e tm' H' := h2
          refine Calls.mono (hc f args H v H1 hcall ρ args' w e2 R L.rel.glob) ?_
          intro en w1 ⟨ρ1, v', e3, e4, e5, e6⟩
          subst e3
          obtain ⟨l', g1, g2, _⟩ := putE_sound ho (L.mono e6.le) e4 h2
          exact ih l' H1 ρ1 _ w1 g1 (R.step e5 e6) g2 (Std.trans S e6)
    unfold wpList
    cases hg : o.guard with
    | none =>
      have hw : Region.wanted o (yielded ops a.tmps) = true := by simp [Region.wanted, hg]
      rw [if_pos hw]
      have h' : regOp C call nt tm o (regS C call nt ops.toList fl tm rest) l H = .mk e tm' H' := by
        have : regS C call nt ops.toList fl tm (o :: rest) = Option.rec (motive := fun _ => RK) (regOp C call nt tm o (regS C call nt ops.toList fl tm rest)) (regG C call nt ops.toList tm o (regS C call nt ops.toList fl tm rest)) o.guard := rfl
        rw [this, hg] at h
        exact h
      exact .inl (hrun l L h')
    | some g =>
      have h' : regG C call nt ops.toList tm o (regS C call nt ops.toList fl tm rest) g l H = .mk e tm' H' := by
        have : regS C call nt ops.toList fl tm (o :: rest) = Option.rec (motive := fun _ => RK) (regOp C call nt tm o (regS C call nt ops.toList fl tm rest)) (regG C call nt ops.toList tm o (regS C call nt ops.toList fl tm rest)) o.guard := rfl
        rw [this, hg] at h
        exact h
      obtain ⟨b, h1, h2⟩ := or0_eq h'
      have hw := wantG_sound L.rel hg h1
      rw [hw]
      cases b with
      | true => exact .inl (hrun l L h2)
      | false =>
        obtain ⟨l', g1, g2, _⟩ := putE_sound ho L (undef_conc ρ) h2
        exact ih l' H ρ _ w g1 R g2 S
theorem region_sound {u : T Unit} {id : Nat} {ops : Array Oper} {ih : IH} (hih : call = callC C ih) : CodeOk C B nt u (.region id ops false) (fun tm H => sRegion id ops.toList (flOf u ops.toList .nil) C ih nt tm H) := by
  intro tm H e tm' H' h ρ a w Q R L hQ
  subst hih
  refine wp_region_list ?_
  exact regOps_sound K hc (u := u) (fun ρ l a hl => hl.flush L.used) hQ ops.toList (fun _ h => h) _ H ρ a w h R (L.start _) (Stp.refl _ _ _ _)
end
end Go.Ax

set_option linter.unusedVariables false
namespace Go.Ax
def LoopWp (P : Program) (c : Code) (Q : Exit → Act → World → Prop) (a : Act) (w : World) : Prop :=
  ∀ (b : Frame) (k : List Item) (cs : List Frame), ∃ e a' w', Q e a' w' ∧ Arrives P (lone (b.at a (.code c :: .inLoop c :: k)) cs w) b k cs e a' w'
theorem LoopWp.wp {P : Program} {c : Code} {Q : Exit → Act → World → Prop} {a : Act} {w : World} (h : LoopWp P c Q a w) : (Code.loop c).wp P Q a w :=
  fun b k cs => let ⟨e, a', w', q, r⟩ := h b k cs; ⟨e, a', w', q, .of_steps (.one step_loop) r⟩
theorem LoopWp.round {P : Program} {c : Code} {Q : Exit → Act → World → Prop} {a : Act} {w : World} (h : c.wp P (Exit.then (LoopWp P c Q) Q) a w) : LoopWp P c Q a w := by
  intro b k cs
  obtain ⟨e, a₁, w₁, hq, harr⟩ := h b (.inLoop c :: k) cs
  cases e with
  | normal =>
    obtain ⟨e₂, a₂, w₂, hq₂, harr₂⟩ := hq b k cs
    exact ⟨e₂, a₂, w₂, hq₂, .of_steps (Steps.trans harr (.one step_inLoop)) harr₂⟩
  | exit id => exact ⟨_, a₁, w₁, hq, .pass (x := .inLoop c) rfl (fun _ _ => .inl (by simp)) harr⟩
  | goto l => exact ⟨_, a₁, w₁, hq, .pass (x := .inLoop c) rfl (fun _ _ => .inl (by simp)) harr⟩
  | ret => exact ⟨_, a₁, w₁, hq, .pass (x := .inLoop c) rfl (fun _ _ => .inl (by simp)) harr⟩
  | panic ch => exact ⟨_, a₁, w₁, hq, .pass (x := .inLoop c) rfl (fun _ _ => .inl (by simp)) harr⟩
  | outgrown => exact ⟨_, a₁, w₁, hq, .pass (x := .inLoop c) rfl (fun _ _ => .inl (by simp)) harr⟩
def DrawOk (C : Ctx) (B : Nat) : Prop := ∀ nt u id (ops : Array Oper) ih, CallOk C B (callC C ih) →
  CodeOk C B nt u (.region id ops true) (fun tm H => sDraw id ops.toList (flOf u ops.toList .nil) (masksOf ops.toList ops.toList 0 .nil .nil .nil) C ih nt tm H)
theorem CodePost.seq {C : Ctx} {B nt : Nat} {u : T Unit} {ρ ρ1 : Env} {H H1 : Heap} {w w1 : World} {tm' : T Value} {H' : Heap} (h : Std ρ H w ρ1 H1 w1) {a' : Act} {w' : World} (k : CodePost C B nt u ρ1 H1 w1 tm' H' a' w') :
    CodePost C B nt u ρ H w tm' H' a' w' := by
  obtain ⟨ρ', h1, h2, h3⟩ := k
  exact ⟨ρ', h1, h2, Std.trans h h3⟩
section
variable {C : Ctx} (K : C.Ok) {B : Nat}
include K
omit K in
theorem results_sound (K : C.Ok) {ρ : Env} {H : Heap} {w : World} {tm : T Value} {a : Act} (R : Rep ρ H B w) (hr : Rel C ρ (.nil C.ng) tm a) {f : ResultVar → Sem Value} (hf1 : ∀ t, f (.tmp t) = pure (a.tmps.getD t undef))
    (hf2 : ∀ x t, f (.cell x t) = (do loadVar t (← asAddr (a.tmps.getD x undef)))) : ∀ {rs : List ResultVar} {vs : List Value}, resultsE C tm H rs = some vs →
    ∃ vs', (rs.mapM f : Sem (List Value)).run C.P w = .ok vs' w ∧ concL ρ vs = some vs'
  | [], vs, h => by
    cases h
    exact ⟨[], by simp, by simp [concL]⟩
  | r :: rs, vs, h => by
    obtain ⟨v, h1, h2⟩ := ob_eq_some h
    obtain ⟨vs1, h3, h4⟩ := ob_eq_some h2
    cases h4
    obtain ⟨vs', e1, e2⟩ := results_sound K R hr hf1 hf2 h3
    have hv : ∃ v', (f r).run C.P w = .ok v' w ∧ conc ρ v = some v' := by
      cases r with
      | tmp t =>
        obtain ⟨v', g1, g2⟩ := hr.tmps t v h1
        exact ⟨v', by simp [hf1, g1], g2⟩
      | cell x t =>
        obtain ⟨p, g0, g3⟩ := ob_eq_some h1
        obtain ⟨p', g1, g2⟩ := hr.tmps x p g0
        obtain ⟨b, g4, g5⟩ := ld_sound K R g3 g2
        subst g4
        obtain ⟨v', g6, g7⟩ := g5
        exact ⟨v', by simp [hf2, g1, asAddr, g6], g7⟩
    obtain ⟨v', g1, g2⟩ := hv
    refine ⟨v' :: vs', ?_, by simp [concL, g2, e2]⟩
    rw [List.mapM_cons]
    simp only [Sem.run_bind, g1, Result.andThen_ok, e1, Sem.run_pure]
omit K in
theorem leaveV_conc {ρ : Env} : ∀ {vs vs' : List Value}, concL ρ vs = some vs' → conc ρ (leaveV vs) = some (leaveV vs')
  | [], vs', h => by
    simp [concL] at h
    subst h
    simp [leaveV, conc, concA, concL]
  | [x], vs', h => by
    cases hx : conc ρ x with
    | none => simp [concL, hx] at h
    | some x' =>
      simp [concL, hx] at h
      subst h
      exact hx
  | x :: y :: zs, vs', h => by
    have hl := concL_length h
    match vs', hl with
    | x' :: y' :: zs', _ => exact conc_tuple_mk h
theorem leave_sound {ρ : Env} {H : Heap} {w : World} {tm : T Value} {a : Act} (R : Rep ρ H B w) (hr : Rel C ρ (.nil C.ng) tm a) {fn : Func} {v : Value} {H' : Heap} (h : leaveE C fn tm H = .ok v H') :
    H' = H ∧ ∃ v', (results fn a.tmps).run C.P w = .ok v' w ∧ conc ρ v = some v' := by
  unfold leaveE at h
  cases hv : resultsE C tm H fn.results.toList with
  | none => rw [hv] at h; cases h
  | some vs =>
    rw [hv] at h
    cases h
    have hfin : ∃ vs' : List Value, concL ρ vs = some vs' ∧ (results fn a.tmps).run C.P w = .ok (if h : vs'.toArray.size = 1 then vs'.toArray[0] else .tuple vs'.toArray) w := by
      unfold results
      simp only [Sem.run_bind, Array.mapM_eq_mapM_toList, map_eq_pure_bind]
      obtain ⟨vs', e1, e2⟩ := results_sound K R hr (f := fun
        | .tmp t => pure (a.tmps.getD t undef)
        | .cell x t => do loadVar t (← asAddr (a.tmps.getD x undef))) (fun _ => rfl) (fun _ _ => rfl) hv
      refine ⟨vs', e2, ?_⟩
      erw [e1]
      simp only [Result.andThen_ok, Sem.run_pure]
    obtain ⟨vs', e2, e1⟩ := hfin
    refine ⟨rfl, leaveV vs', ?_, ?_⟩
    · rw [e1]
      congr 1
      cases vs' with
      | nil => rfl
      | cons x xs =>
        cases xs with
        | nil => rfl
        | cons y ys => simp [leaveV]
    · exact leaveV_conc e2
omit K in
theorem rel_args {ρ : Env} {args args' : List Value} (ha : concL ρ args = some args') (hg : GlobOk C ρ) {n : Nat} : Rel C ρ (.nil C.ng) (T.ofList args) { tmps := args'.toArray ++ Array.replicate n undef, defers := [] } := by
  refine ⟨?_, hg, rfl⟩
  intro t v e
  replace e : (T.ofList args).get t = some v := e
  rw [T.get_ofList] at e
  obtain ⟨v', h1, h2⟩ := (concL_iff.1 ha).2 t v e
  refine ⟨v', ?_, h2⟩
  have hlt : t < args'.length := by
    rcases Nat.lt_or_ge t args'.length with g | g
    · exact g
    · rw [List.getElem?_eq_none g] at h1; cases h1
  rw [Array.getElem?_append_left (by simpa using hlt)]
  simpa using h1
omit K in
theorem upTo_mem : ∀ {n t : Nat}, t < n → t ∈ upTo n
  | n + 1, t, h => by
    rw [upTo]
    by_cases e : t = n
    · simp [e]
    · exact List.mem_cons_of_mem _ (upTo_mem (by omega))
omit K in
theorem useRead_keep (own : T Unit) : ∀ (ts : List Nat) (u : T Unit) (t : Nat), u.get t ≠ none → (useRead own u ts).get t ≠ none
  | [], u, t, h => h
  | x :: ts, u, t, h => by
    rw [useRead]
    split
    · exact useRead_keep own ts u t h
    · refine useRead_keep own ts _ t ?_
      by_cases e : t = x
      · subst e; rw [T.get_set_same]; simp
      · rw [T.get_set_ne _ _ e]; exact h
omit K in
theorem useRead_add : ∀ (ts : List Nat) (u : T Unit) (t : Nat), t ∈ ts → (useRead .nil u ts).get t ≠ none
  | x :: ts, u, t, h => by
    rw [useRead]
    have hn : (T.nil : T Unit).get x = none := rfl
    rw [hn]
    simp only []
    rcases List.mem_cons.1 h with rfl | h
    · exact useRead_keep .nil ts _ t (by rw [T.get_set_same]; simp)
    · exact useRead_add ts _ t h
omit K in
theorem useOps_keep (ops : List Oper) : ∀ (os : List Oper) (own u : T Unit) (t : Nat), u.get t ≠ none → (useOps ops os own u).get t ≠ none
  | [], own, u, t, h => h
  | o :: os, own, u, t, h => useOps_keep ops os _ _ t (useRead_keep own _ u t h)
omit K in
theorem useC_keep : ∀ (c : Code) (u : T Unit) (t : Nat), u.get t ≠ none → (useC c u).get t ≠ none
  | .region _ ops _, u, t, h => useOps_keep _ _ _ _ t h
  | .seq a b, u, t, h => useC_keep b _ t (useC_keep a u t h)
  | .cond c a b, u, t, h => useC_keep b _ t (useC_keep a _ t (useRead_keep .nil _ u t h))
  | .block _ b, u, t, h => useC_keep b u t h
  | .loop b, u, t, h => useC_keep b u t h
  | .scope b, u, t, h => useC_keep b u t h
  | .skip, u, t, h => h
  | .rangeFunc .., u, t, h => h
  | .exit _, u, t, h => h
  | .label _, u, t, h => h
  | .goto _, u, t, h => h
  | .ret, u, t, h => h
  | .refuse _, u, t, h => h
theorem call_sound {ih : IH} (hih : ∀ nt u code, CodeOk C B nt u code (fun tm H => ih nt (comp u code) tm H)) : CallOk C B (callC C ih) := by
  intro f args H v H' h ρ args' w ha R hg
  unfold callC at h
  cases hf : C.fns.get f with
  | none => rw [hf] at h; cases h
  | some g =>
    rw [hf] at h
    obtain ⟨fn, c, h1, h2, rfl⟩ := K.body f g hf
    replace h : callF C ih args H (ifn fn c) = .ok v H' := h
    unfold callF at h
    cases hb : Nat.ble args.length (ifn fn c).np with
    | false => rw [hb] at h; cases h
    | true =>
      rw [hb] at h
      cases hb2 : Nat.ble args.length (ifn fn c).fn.ntmps with
      | false => rw [hb2] at h; cases h
      | true =>
        rw [hb2] at h
        replace h : leaveR C fn (ih fn.ntmps (comp (slotsOf fn c) c) (T.ofList args) H) = .ok v H' := h
        have hnp : args.length ≤ fn.params.size + fn.nfree := Nat.le_of_ble_eq_true hb
        have hnt : args.length ≤ fn.ntmps := Nat.le_of_ble_eq_true hb2
        have hlen := concL_length ha
        have htm : TmOk C ρ (slotsOf fn c) (T.ofList args) { tmps := args'.toArray ++ Array.replicate (fn.ntmps - args'.toArray.size) undef, defers := [] } fn.ntmps := by
          refine ⟨?_, rel_args ha hg, by simp [hlen]; omega, rfl⟩
          intro t x e
          rw [T.get_ofList] at e
          have hlt : t < args.length := by
            rcases Nat.lt_or_ge t args.length with g | g
            · exact g
            · rw [List.getElem?_eq_none g] at e; cases e
          exact useC_keep c _ t (useRead_add _ _ t (List.mem_append_left _ (upTo_mem (Nat.lt_of_lt_of_le hlt hnp))))
        refine calls_of_wp h1 h2 ?_
        cases hres : ih fn.ntmps (comp (slotsOf fn c) c) (T.ofList args) H with
        | none => rw [hres] at h; cases h
        | mk e tm' H1 =>
          rw [hres] at h
          refine hih fn.ntmps (slotsOf fn c) c (T.ofList args) H e tm' H1 hres ρ _ w _ R htm ?_
          intro a' w' ⟨ρ', g1, g2, g3⟩
          cases e with
          | exit i => cases h
          | normal =>
            obtain ⟨rfl, v', g4, g5⟩ := leave_sound K g1.rep g2.rel h
            exact ⟨g2.defers, v', g4, ρ', v', rfl, g5, g1.rep, g3⟩
          | ret =>
            obtain ⟨rfl, v', g4, g5⟩ := leave_sound K g1.rep g2.rel h
            exact ⟨g2.defers, v', g4, ρ', v', rfl, g5, g1.rep, g3⟩
theorem code_sound (hd : DrawOk C B) : ∀ n, (∀ nt u code, CodeOk C B nt u code (fun tm H => go C n nt (comp u code) tm H)) ∧
    (∀ nt u body tm H e tm' H', go C n nt (comp u (.loop body)) tm H = .mk e tm' H' → ∀ ρ a w (Q : Exit → Act → World → Prop), Good ρ H B w → TmOk C ρ u tm a nt → (∀ a' w', CodePost C B nt u ρ H w tm' H' a' w' → Q (exOf e) a' w') → LoopWp C.P body Q a w)
  | 0 => by
    refine ⟨?_, ?_⟩
    · intro nt u code tm H e tm' H' h
      cases h
    · intro nt u body tm H e tm' H' h
      cases h
  | n + 1 => by
    obtain ⟨ih, ihl⟩ := code_sound hd n
    have hcall := call_sound K ih
    have hloop : ∀ nt u body tm H e tm' H', go C (n + 1) nt (comp u (.loop body)) tm H = .mk e tm' H' → ∀ ρ a w (Q : Exit → Act → World → Prop), Good ρ H B w → TmOk C ρ u tm a nt → (∀ a' w', CodePost C B nt u ρ H w tm' H' a' w' → Q (exOf e) a' w') → LoopWp C.P body Q a w := by
      intro nt u body tm H e tm' H' h ρ a w Q R L hQ
      replace h : sLoop (comp u body) sSkip C (go C n) nt tm H = .mk e tm' H' := h
      unfold sLoop at h
      refine LoopWp.round ?_
      cases hb : go C n nt (comp u body) tm H with
      | none => rw [hb] at h; cases h
      | mk e1 tm1 H1 =>
        rw [hb] at h
        refine ih nt u body tm H e1 tm1 H1 hb ρ a w _ R L ?_
        intro a1 w1 ⟨ρ1, g1, g2, g3⟩
        cases e1 with
        | normal => exact ihl nt u body tm1 H1 e tm' H' h ρ1 a1 w1 Q g1 g2 fun a' w' q => hQ a' w' (.seq g3 q)
        | exit i => cases h; exact hQ a1 w1 ⟨ρ1, g1, g2, g3⟩
        | ret => cases h; exact hQ a1 w1 ⟨ρ1, g1, g2, g3⟩
    refine ⟨?_, hloop⟩
    intro nt u code tm H e tm' H' h ρ a w Q R L hQ
    cases code with
    | skip =>
      replace h : Res.mk .normal tm H = .mk e tm' H' := h
      cases h
      exact wp_skip (hQ a w ⟨ρ, R, L, Stp.refl _ _ _ _⟩)
    | label l =>
      replace h : Res.mk .normal tm H = .mk e tm' H' := h
      cases h
      exact wp_label (hQ a w ⟨ρ, R, L, Stp.refl _ _ _ _⟩)
    | exit id =>
      replace h : Res.mk (.exit id) tm H = .mk e tm' H' := h
      cases h
      exact wp_exit (hQ a w ⟨ρ, R, L, Stp.refl _ _ _ _⟩)
    | ret =>
      replace h : Res.mk .ret tm H = .mk e tm' H' := h
      cases h
      exact wp_ret (hQ a w ⟨ρ, R, L, Stp.refl _ _ _ _⟩)
    | region id ops draw =>
      cases draw with
      | false => exact region_sound K hcall rfl tm H e tm' H' h ρ a w Q R L hQ
      | true => exact hd nt u id ops (go C n) hcall tm H e tm' H' h ρ a w Q R L hQ
    | seq x y =>
      replace h : sSeq (comp u x) (comp u y) sSkip sSkip C (go C n) nt tm H = .mk e tm' H' := h
      unfold sSeq at h
      refine wp_seq ?_
      cases hb : go C n nt (comp u x) tm H with
      | none => rw [hb] at h; cases h
      | mk e1 tm1 H1 =>
        rw [hb] at h
        refine ih nt u x tm H e1 tm1 H1 hb ρ a w _ R L ?_
        intro a1 w1 ⟨ρ1, g1, g2, g3⟩
        cases e1 with
        | normal => exact ih nt u y tm1 H1 e tm' H' h ρ1 a1 w1 Q g1 g2 fun a' w' q => hQ a' w' (.seq g3 q)
        | exit i => cases h; exact hQ a1 w1 ⟨ρ1, g1, g2, g3⟩
        | ret => cases h; exact hQ a1 w1 ⟨ρ1, g1, g2, g3⟩
    | cond c x y =>
      replace h : sCond c (comp u x) (comp u y) sSkip sSkip C (go C n) nt tm H = .mk e tm' H' := h
      obtain ⟨t, h1, h2⟩ := or0_eq h
      obtain ⟨v, h3, h4⟩ := ob_eq_some h1
      have hv := look_sound L.rel h3
      rw [asBool_eq h4, conc_bool] at hv
      refine wp_cond (t := t) (Option.some.inj hv).symm ?_
      cases t with
      | true => exact ih nt u x tm H e tm' H' h2 ρ a w Q R L hQ
      | false => exact ih nt u y tm H e tm' H' h2 ρ a w Q R L hQ
    | block id c =>
      replace h : sBlock id (comp u c) sSkip C (go C n) nt tm H = .mk e tm' H' := h
      unfold sBlock at h
      refine wp_block ?_
      cases hb : go C n nt (comp u c) tm H with
      | none => rw [hb] at h; cases h
      | mk e1 tm1 H1 =>
        rw [hb] at h
        refine ih nt u c tm H e1 tm1 H1 hb ρ a w _ R L ?_
        intro a1 w1 hp
        cases e1 with
        | normal => cases h; exact hQ a1 w1 hp
        | ret => cases h; exact hQ a1 w1 hp
        | exit i =>
          simp only [] at h
          show if i = id then Q .normal a1 w1 else Q (.exit i) a1 w1
          cases hq : Nat.beq i id with
          | true =>
            rw [hq] at h
            cases h
            rw [if_pos (Nat.eq_of_beq_eq_true hq)]
            exact hQ a1 w1 hp
          | false =>
            rw [hq] at h
            cases h
            rw [if_neg (Nat.ne_of_beq_eq_false hq)]
            exact hQ a1 w1 hp
    | loop body => exact (hloop nt u body tm H e tm' H' h ρ a w Q R L hQ).wp
    | scope c =>
      replace h : go C n nt (comp u c) tm H = .mk e tm' H' := h
      refine wp_scope_straight (ih nt u c tm H e tm' H' h ρ a w _ R L ?_)
      intro a' w' q
      have := hQ a' w' q
      cases e <;> exact this
    | rangeFunc f ps x y => cases h
    | goto l => cases h
    | refuse s => cases h
theorem callG_sound (hd : DrawOk C B) (n : Nat) : CallOk C B (callG C n) := call_sound K (code_sound K hd n).1
end
end Go.Ax
