import Derived.Test.YtphfkbagjpcmpaaFw4
/-! '==' and the operators of two operands. -/
namespace Go.Fw
open Go.RowKit
section
variable {P : Program} {φ : Nat → Option Loc} {n : Nat} {w : World}

def eqElems (d : Nat) (e sz : Nat) (xs ys : Array Value) : List Nat → Sem Bool
  | [] => pure true
  | i :: is => do
    let a ← part e xs (i * sz)
    let b ← part e ys (i * sz)
    let r ← Op.equalIn d e a b
    if (!r) = true then pure false else eqElems d e sz xs ys is

theorem run_equalIn_array (d : Nat) (t e len sz : Nat) (xs ys : Array Value) (ht : P.underlying t = some (.array len e)) (hz : tsz P e = some sz) :
    (Op.equalIn (d + 1) t (.agg xs) (.agg ys)).run P w = (eqElems d e sz xs ys (List.range' 0 len)).run P w := by
  simp only [Op.equalIn, Sem.run_bind, run_und ht, Result.andThen_ok, run_tsz hz, Std.Legacy.Range.forIn_eq_forIn_range', Std.Legacy.Range.size, Nat.sub_zero, Nat.add_sub_cancel, Nat.div_one]
  generalize List.range' 0 len = fs
  induction fs generalizing w with
  | nil => simp [eqElems]
  | cons f fs ih =>
    simp only [List.forIn_cons, eqElems, Sem.run_bind, Sem.run_ite]
    generalize (part e xs (f * sz)).run P w = r1
    cases r1 with
    | ok a w1 =>
      simp only [Result.andThen_ok]
      generalize (part e ys (f * sz)).run P w1 = r2
      cases r2 with
      | ok b w2 =>
        simp only [Result.andThen_ok]
        generalize (Op.equalIn d e a b).run P w2 = r3
        cases r3 with
        | ok r w3 =>
          cases r
          · simp only [Result.andThen_ok, Bool.not_false, if_true, Sem.run_pure]
          · simp only [Result.andThen_ok, Bool.not_true, Bool.false_eq_true, if_false, Sem.run_pure]
            exact ih
        | halt x w3 => simp [Result.andThen]
      | halt x w2 => simp [Result.andThen]
    | halt x w1 => simp [Result.andThen]

theorem intsOf_at {k : IntKind} : ∀ {l : List Value} {a : List Int}, intsOf k l = some a → l = a.map (.int k)
  | [], a, h => by cases h; rfl
  | .int k' i :: r, a, h => by
    simp only [intsOf] at h
    split at h
    · rename_i hk
      simp only [Option.map_eq_some_iff] at h
      obtain ⟨b, hb, rfl⟩ := h
      rw [intsOf_at hb, hk]; rfl
    · cases h
  | .bool _ :: r, a, h => by cases h
  | .float _ _ :: r, a, h => by cases h
  | .complex _ _ _ :: r, a, h => by cases h
  | .string _ :: r, a, h => by cases h
  | .pointer _ :: r, a, h => by cases h
  | .slice _ _ _ :: r, a, h => by cases h
  | .map _ :: r, a, h => by cases h
  | .chan _ :: r, a, h => by cases h
  | .func _ _ _ :: r, a, h => by cases h
  | .nilFunc :: r, a, h => by cases h
  | .iface _ _ :: r, a, h => by cases h
  | .nilIface :: r, a, h => by cases h
  | .agg _ :: r, a, h => by cases h
  | .tuple _ :: r, a, h => by cases h
theorem intsOf_map (k : IntKind) : ∀ a : List Int, intsOf k (a.map (.int k)) = some a
  | [] => rfl
  | i :: r => by simp [intsOf, intsOf_map k r]

theorem eqElems_ints {d e : Nat} {k : IntKind} (he : P.underlying e = some (.int k)) (xs ys : Array Value) (a b : List Int) (hx : xs.toList = a.map (.int k)) (hy : ys.toList = b.map (.int k)) :
    ∀ (m i : Nat), i + m = a.length → i + m = b.length → (eqElems (d + 1) e 1 xs ys (List.range' i m)).run P w = .ok (a.drop i == b.drop i) w
  | 0, i, h1, h2 => by
    rw [List.drop_of_length_le (by omega), List.drop_of_length_le (by omega)]; rfl
  | m + 1, i, h1, h2 => by
    have hp : ∀ (zs : Array Value) (c : List Int), zs.toList = c.map (.int k) → i < c.length → (part e zs (i * 1)).run P w = .ok (.int k (c.getD i 0)) w := by
      intro zs c hz hi
      refine apart_sound ?_
      have : tagg P e = some false := by simp [tagg, he]
      simp only [apart, this, Nat.mul_one]
      rw [← Array.getElem?_toList, hz]
      simp [List.getD_eq_getElem?_getD, List.getElem?_eq_getElem hi]
    simp only [List.range'_succ, eqElems, Sem.run_bind, hp xs a hx (by omega), hp ys b hy (by omega), Result.andThen_ok, run_equalIn_int w d e k k _ _ he]
    rw [List.drop_eq_getElem_cons (show i < a.length by omega), List.drop_eq_getElem_cons (show i < b.length by omega)]
    have g1 : a.getD i 0 = a[i]'(by omega) := by simp [List.getD_eq_getElem?_getD, List.getElem?_eq_getElem (show i < a.length by omega)]
    have g2 : b.getD i 0 = b[i]'(by omega) := by simp [List.getD_eq_getElem?_getD, List.getElem?_eq_getElem (show i < b.length by omega)]
    rw [g1, g2]
    by_cases hq : a[i]'(by omega) = b[i]'(by omega)
    · simp only [hq, BEq.rfl, Bool.not_true, Bool.false_eq_true, if_false]
      rw [eqElems_ints he xs ys a b hx hy m (i + 1) (by omega) (by omega), List.cons_beq_cons]
      simp only [BEq.rfl, Bool.true_and]
    · have : (a[i]'(by omega) == b[i]'(by omega)) = false := beq_eq_false_iff_ne.2 hq
      simp only [this, Bool.not_false, if_true, Sem.run_pure]
      rw [List.cons_beq_cons, this, Bool.false_and]

theorem aeqIn_sound : ∀ {d : Nat} {t : TypeId} {x y : Value} {r : Bool} (j : Nat), aeqIn P d t x y = some r → (Op.equalIn (d + j) t x y).run P w = .ok r w
  | 0, t, x, y, r, j, e => by cases e
  | d + 1, t, x, y, r, j, e => by
    rw [show d + 1 + j = (d + j) + 1 by omega]
    unfold aeqIn at e
    split at e
    · rename_i a b h; cases e; exact run_equalIn_bool w _ _ _ _ h
    · rename_i k' k a k2 b h
      split at e
      · rename_i hk; subst hk; cases e; exact run_equalIn_int w _ _ _ _ _ _ h
      · cases e
    · rename_i a b h; cases e; rw [run_equalIn_string w _ _ _ _ h, beq_toListBytes]
    · rename_i fs xs ys h
      split at e
      · cases e
      · rename_i hh
        have hf : P.fieldsOf t = fs := by simp [Program.fieldsOf, h]
        rw [run_equalIn_struct w _ t xs ys (by rw [hf]; exact h) (by simpa using hh), hf]
        exact aeqFields_sound (fun t x y r q => aeqIn_sound j q) e
    · rename_i len e0 xs ys h
      split at e
      · rename_i k he hz
        split at e
        · rename_i hc
          obtain ⟨h1, h2, h3⟩ := hc
          split at e
          · rename_i a b ha hb
            cases e
            have hx := intsOf_at ha
            have hy := intsOf_at hb
            have l1 : a.length = len := by have := congrArg List.length hx; simp at this; omega
            have l2 : b.length = len := by have := congrArg List.length hy; simp at this; omega
            obtain ⟨d', rfl⟩ : ∃ d', d = d' + 1 := ⟨d - 1, by omega⟩
            rw [run_equalIn_array _ t e0 len 1 xs ys h hz, show d' + 1 + j = (d' + j) + 1 by omega, eqElems_ints he xs ys a b hx hy len 0 (by omega) (by omega)]
            simp
          · cases e
        · cases e
      · cases e
    · cases e

/-- What is compared by 'aeqIn' holds no reference (in what is told). -/
theorem aeqIn_plain : ∀ {d : Nat} {t : TypeId} {x y cx cy : Value} {r : Bool}, aeqIn P d t x y = some r → VR φ n x cx → VR φ n y cy → aeqIn P d t cx cy = some r
  | 0, t, x, y, cx, cy, r, e, _, _ => by cases e
  | d + 1, t, x, y, cx, cy, r, e, hx, hy => by
    have e' := e
    unfold aeqIn at e
    split at e
    · obtain rfl := hx.bool_inv; obtain rfl := hy.bool_inv; exact e'
    · obtain rfl := hx.int_inv; obtain rfl := hy.int_inv; exact e'
    · obtain rfl := hx.string_inv; obtain rfl := hy.string_inv; exact e'
    · rename_i fs xs ys h
      obtain ⟨xs', rfl, hx1, hx2⟩ := hx.agg_inv
      obtain ⟨ys', rfl, hy1, hy2⟩ := hy.agg_inv
      unfold aeqIn
      simp only [h]
      split at e
      · cases e
      · rename_i hh
        rw [if_neg hh]
        have hpart : ∀ (t : TypeId) (zs zs' : Array Value) (off : Nat) (v : Value), CR φ n zs zs' → apart P t zs off = some v → ∃ v', apart P t zs' off = some v' ∧ VR φ n v v' := by
          intro t zs zs' off v hc hv
          unfold apart at hv ⊢
          split at hv
          · rename_i ht
            simp only [Option.map_eq_some_iff] at hv
            obtain ⟨m, hm, rfl⟩ := hv
            have := hc.extract off (off + m)
            exact ⟨.agg (zs'.extract off (off + m)), by simp [hm], .agg _ _ this.1 this.2⟩
          · rename_i ht
            obtain ⟨v', hv', q⟩ := hc.at off v hv
            exact ⟨v', by simpa using hv', q⟩
          · cases hv
        have key : ∀ (fs : List Field) (r : Bool), aeqFields (aeqIn P d) P xs ys fs = some r → aeqFields (aeqIn P d) P xs' ys' fs = some r := by
          intro fs
          induction fs with
          | nil => intro r h; exact h
          | cons f fs ih =>
            intro r h
            unfold aeqFields at h ⊢
            split at h
            · rename_i hf
              rw [if_pos hf]
              split at h
              · rename_i a b ha hb
                obtain ⟨a', ha', qa⟩ := hpart _ _ _ _ _ ⟨hx1, hx2⟩ ha
                obtain ⟨b', hb', qb⟩ := hpart _ _ _ _ _ ⟨hy1, hy2⟩ hb
                simp only [ha', hb']
                split at h
                · rename_i hr; rw [aeqIn_plain hr qa qb]; exact ih r h
                · rename_i hr; rw [aeqIn_plain hr qa qb]; exact h
                · cases h
              · cases h
            · rename_i hf
              rw [if_neg hf]; exact ih r h
        exact key _ r e
    · rename_i len e0 xs ys h
      split at e
      · rename_i k he hz
        split at e
        · split at e
          · rename_i a b ha hb
            have p1 : plainV (.agg xs) = true := by
              simp only [plainV, ← Array.all_toList, intsOf_at ha]; simp [plain1]
            have p2 : plainV (.agg ys) = true := by
              simp only [plainV, ← Array.all_toList, intsOf_at hb]; simp [plain1]
            rw [hx.plain_eq p1, hy.plain_eq p2]; exact e'
          · cases e
        · cases e
      · cases e
    · cases e

theorem equal_run {t : TypeId} {x y : Value} {r : Bool} (h : (Op.equalIn (9999 + 1) t x y).run P w = .ok r w) : (Op.equal t x y).run P w = .ok r w := h
theorem eql_run {t : TypeId} {x y : Value} {r : Bool} (hs : binOp .eql t x y = (do pure (.bool (← Op.equal t x y)))) (h : (Op.equal t x y).run P w = .ok r w) : (binOp .eql t x y).run P w = .ok (.bool r) w := by
  rw [hs]; simp only [Sem.run_bind, h, Result.andThen_ok, Sem.run_pure]
theorem neq_run {t : TypeId} {x y : Value} {r : Bool} (hs : binOp .neq t x y = (do pure (.bool (!(← Op.equal t x y))))) (h : (Op.equal t x y).run P w = .ok r w) : (binOp .neq t x y).run P w = .ok (.bool (!r)) w := by
  rw [hs]; simp only [Sem.run_bind, h, Result.andThen_ok, Sem.run_pure]
theorem equalIn_ptr (j : Nat) {t el : TypeId} (h : P.underlying t = some (.pointer el)) (p : Option Addr) : (Op.equalIn (j + 1) t (.pointer p) (.pointer none)).run P w = .ok p.isNone w := by
  cases p <;> simp only [Op.equalIn, Sem.run_bind, run_und h, Result.andThen_ok] <;> rfl
theorem equal_ptr {t el : TypeId} (h : P.underlying t = some (.pointer el)) (p : Option Addr) : (Op.equal t (.pointer p) (.pointer none)).run P w = .ok p.isNone w := equal_run (equalIn_ptr 9999 h p)
theorem equalIn_slice (j : Nat) {t el : TypeId} (h : P.underlying t = some (.slice el)) (p : Option Addr) (a b c d : Nat) : (Op.equalIn (j + 1) t (.slice p a b) (.slice none c d)).run P w = .ok p.isNone w := by
  cases p <;> simp only [Op.equalIn, Sem.run_bind, run_und h, Result.andThen_ok] <;> rfl
theorem equal_slice {t el : TypeId} (h : P.underlying t = some (.slice el)) (p : Option Addr) (a b c d : Nat) : (Op.equal t (.slice p a b) (.slice none c d)).run P w = .ok p.isNone w := equal_run (equalIn_slice 9999 h p a b c d)
theorem equalIn_iface (j : Nat) {t : TypeId} {ms : Array (String × TypeId)} (h : P.underlying t = some (.interface ms)) (d : TypeId) (v : Value) : (Op.equalIn (j + 1) t (.iface d v) .nilIface).run P w = .ok false w := by
  simp only [Op.equalIn, Sem.run_bind, run_und h, Result.andThen_ok]; rfl
theorem equal_iface {t : TypeId} {ms : Array (String × TypeId)} (h : P.underlying t = some (.interface ms)) (d : TypeId) (v : Value) : (Op.equal t (.iface d v) .nilIface).run P w = .ok false w := equal_run (equalIn_iface 9999 h d v)
theorem equalIn_niface (j : Nat) {t : TypeId} {ms : Array (String × TypeId)} (h : P.underlying t = some (.interface ms)) : (Op.equalIn (j + 1) t .nilIface .nilIface).run P w = .ok true w := by
  simp only [Op.equalIn, Sem.run_bind, run_und h, Result.andThen_ok]; rfl
theorem equal_niface {t : TypeId} {ms : Array (String × TypeId)} (h : P.underlying t = some (.interface ms)) : (Op.equal t .nilIface .nilIface).run P w = .ok true w := equal_run (equalIn_niface 9999 h )
theorem equalIn_func (j : Nat) {t : TypeId} {a b : Array TypeId} {c : Bool} (h : P.underlying t = some (.func a b c)) (fn : Fn) (x y : Array Value) : (Op.equalIn (j + 1) t (.func fn x y) .nilFunc).run P w = .ok false w := by
  simp only [Op.equalIn, Sem.run_bind, run_und h, Result.andThen_ok]; rfl
theorem equal_func {t : TypeId} {a b : Array TypeId} {c : Bool} (h : P.underlying t = some (.func a b c)) (fn : Fn) (x y : Array Value) : (Op.equal t (.func fn x y) .nilFunc).run P w = .ok false w := equal_run (equalIn_func 9999 h fn x y)
theorem equalIn_nfunc (j : Nat) {t : TypeId} {a b : Array TypeId} {c : Bool} (h : P.underlying t = some (.func a b c)) : (Op.equalIn (j + 1) t .nilFunc .nilFunc).run P w = .ok true w := by
  simp only [Op.equalIn, Sem.run_bind, run_und h, Result.andThen_ok]; rfl
theorem equal_nfunc {t : TypeId} {a b : Array TypeId} {c : Bool} (h : P.underlying t = some (.func a b c)) : (Op.equal t .nilFunc .nilFunc).run P w = .ok true w := equal_run (equalIn_nfunc 9999 h )
theorem equal_bool {t : TypeId} (h : P.underlying t = some .bool) (a b : Bool) : (Op.equal t (.bool a) (.bool b)).run P w = .ok (a == b) w := equal_run (run_equalIn_bool w 9999 t a b h)

theorem abin_sound {op : BinOp} {t : TypeId} {xo yo xo' yo' : Operand} {x y cx cy v : Value} (hc : isC xo = isC xo') (hc' : isC yo = isC yo') (e : abin P op t xo yo x y = some v) (hx : VR φ n x cx) (hy : VR φ n y cy) :
    (do eqGuard op t xo' yo' cx cy; binOp op t cx cy).run P w = .ok v w ∧ VR φ n v v := by
  have vb : ∀ b, VR φ n (.bool b) (.bool b) := fun b => .bool b
  unfold abin at e
  split at e
  · rename_i k a k' b
    obtain rfl := hx.int_inv
    obtain rfl := hy.int_inv
    rw [eqGuard_at_int]
    simp only [pure_bind]
    split at e
    · split at e
      · cases e
      · rename_i hb
        cases e
        exact ⟨by simp [binOp, Op.shift, hb, ishl], .int _ _⟩
    · split at e
      · cases e
      · rename_i hb
        cases e
        exact ⟨by simp [binOp, Op.shift, hb, ishr], .int _ _⟩
    · rename_i h1 h2
      split at e
      · rename_i hk
        subst hk
        refine ⟨ibin_sound e h1 h2, ?_⟩
        unfold ibin at e
        split at e
        all_goals first
          | (cases e; done)
          | (cases e; exact .int _ _)
          | (cases e; exact .bool _)
          | (split at e; · cases e
             cases e; exact .int _ _)
      · cases e
  · rename_i a b
    obtain rfl := hx.string_inv
    obtain rfl := hy.string_inv
    rw [eqGuard_at_string]
    simp only [pure_bind]
    refine ⟨sbin_sound e, ?_⟩
    unfold sbin at e
    split at e
    all_goals first
      | (cases e; done)
      | (cases e; exact .bool _)
      | (split at e
         · cases e; exact .string _
         · cases e)
  · rename_i a b
    obtain rfl := hx.bool_inv
    obtain rfl := hy.bool_inv
    rw [eqGuard_at_bool]
    simp only [pure_bind]
    split at e
    · rename_i h; cases e
      exact ⟨eql_run rfl (equal_bool h a b), .bool _⟩
    · rename_i h; cases e
      exact ⟨neq_run rfl (equal_bool h a b), .bool _⟩
    · cases e
  · rename_i p
    obtain rfl := hy.ptr0_inv
    obtain ⟨p', rfl, hp⟩ : ∃ p', cx = .pointer p' ∧ p'.isNone = p.isNone := by
      cases p with
      | none => exact ⟨none, hx.ptr0_inv, rfl⟩
      | some a => obtain ⟨b, off, sp⟩ := a; obtain ⟨ca, rfl, _⟩ := hx.ptr_inv; exact ⟨some ca, rfl, rfl⟩
    rw [eqGuard_at_pointer]
    simp only [pure_bind]
    split at e
    · rename_i h; cases e
      exact ⟨hp ▸ eql_run rfl (equal_ptr h p'), .bool _⟩
    · rename_i h; cases e
      exact ⟨hp ▸ neq_run rfl (equal_ptr h p'), .bool _⟩
    · cases e
  · rename_i p _ _ _ _
    obtain ⟨c0, c1, rfl⟩ : ∃ l c, cy = .slice none l c := by
      rcases hy.slice_inv with ⟨_, _, _, e⟩ | ⟨b, off, sp, ca, ccap, e, _⟩
      · exact ⟨_, _, e⟩
      · cases e
    obtain ⟨p', l', c', rfl, hp⟩ : ∃ p' l' c', cx = .slice p' l' c' ∧ p'.isNone = p.isNone := by
      rcases hx.slice_inv with ⟨rfl, _, _, e⟩ | ⟨b, off, sp, ca, ccap, rfl, e, _⟩
      · exact ⟨none, 0, 0, e, rfl⟩
      · exact ⟨_, _, _, e, rfl⟩
    rw [eqGuard_at_slice]
    simp only [pure_bind]
    split at e
    · rename_i h; cases e
      exact ⟨hp ▸ eql_run rfl (equal_slice h p' _ _ _ _), .bool _⟩
    · rename_i h; cases e
      exact ⟨hp ▸ neq_run rfl (equal_slice h p' _ _ _ _), .bool _⟩
    · cases e
  · obtain ⟨v', rfl, _⟩ := hx.iface_inv
    obtain rfl := hy.nilIface_inv
    rw [eqGuard_at_iface]
    simp only [pure_bind]
    split at e
    · rename_i h; cases e
      exact ⟨eql_run rfl (equal_iface h _ _), .bool _⟩
    · rename_i h; cases e
      exact ⟨neq_run rfl (equal_iface h _ _), .bool _⟩
    · cases e
  · obtain rfl := hx.nilIface_inv
    obtain rfl := hy.nilIface_inv
    have hg : (isC xo || isC yo) = true → eqGuard op t xo' yo' .nilIface .nilIface = pure () := by
      intro h
      rw [hc, hc'] at h
      cases xo' <;> cases yo' <;> simp [isC] at h <;> cases op <;> rfl
    split at e
    · rename_i h hk; cases e
      rw [hg hk]
      simp only [pure_bind]
      exact ⟨eql_run rfl (equal_niface h), .bool _⟩
    · rename_i h hk; cases e
      rw [hg hk]
      simp only [pure_bind]
      exact ⟨neq_run rfl (equal_niface h), .bool _⟩
    · cases e
  · rename_i fn f c
    obtain rfl := hy.nilFunc_inv
    obtain ⟨fn', f', c', rfl⟩ : ∃ fn' f' c', cx = .func fn' f' c' := by cases hx <;> exact ⟨_, _, _, rfl⟩
    rw [eqGuard_at_func]
    simp only [pure_bind]
    split at e
    · rename_i h; cases e
      exact ⟨eql_run rfl (equal_func h _ _ _), .bool _⟩
    · rename_i h; cases e
      exact ⟨neq_run rfl (equal_func h _ _ _), .bool _⟩
    · cases e
  · obtain rfl := hx.nilFunc_inv
    obtain rfl := hy.nilFunc_inv
    rw [eqGuard_at_nilFunc]
    simp only [pure_bind]
    split at e
    · rename_i h; cases e
      exact ⟨eql_run rfl (equal_nfunc h), .bool _⟩
    · rename_i h; cases e
      exact ⟨neq_run rfl (equal_nfunc h), .bool _⟩
    · cases e
  · rename_i xs ys
    obtain ⟨xs', rfl, hx'⟩ := hx.agg_inv
    obtain ⟨ys', rfl, hy'⟩ := hy.agg_inv
    split at e
    · cases e
    · rename_i hg
      simp only [Sem.run_bind]
      rw [run_eqGuard_agg w op t xo' yo' xs' ys' (by simpa using hg)]
      simp only [Result.andThen_ok]
      split at e
      · simp only [Option.map_eq_some_iff] at e
        obtain ⟨r, hr, rfl⟩ := e
        refine ⟨?_, .bool _⟩
        rw [run_eql_struct, show (10000 : Nat) = 5 + 9995 from rfl, aeqIn_sound 9995 (aeqIn_plain hr hx hy)]; rfl
      · simp only [Option.map_eq_some_iff] at e
        obtain ⟨r, hr, rfl⟩ := e
        refine ⟨?_, .bool _⟩
        rw [run_neq_struct, show (10000 : Nat) = 5 + 9995 from rfl, aeqIn_sound 9995 (aeqIn_plain hr hx hy)]; rfl
      · cases e
  · cases e
end
end Go.Fw
