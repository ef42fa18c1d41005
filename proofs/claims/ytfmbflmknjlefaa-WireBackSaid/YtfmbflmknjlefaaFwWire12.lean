import Derived.Test.YtfmbflmknjlefaaFwWire11
set_option linter.unusedSimpArgs false
set_option linter.unusedVariables false
set_option maxRecDepth 4000
namespace Go.Fw
open Go.Proofs Go.RowKit
theorem Try.enters16 : Enters Try.prog 16 := enters_of Try.func16 rfl (by kernel_rfl)
theorem Try.enters40 : Enters Try.prog 40 := enters_of Try.func40 rfl (by kernel_rfl)
def msg0 : MsgT := ⟨0, 0, 0, 0, 0, 0, 0, [], 0, 0, ⟨0, [], verN⟩, zeroH, ByteArray.empty⟩
def u8N : Nat → List Int → List Int → List Int × List Int × Int
  | 0, acc, r => (acc, r, 0)
  | k + 1, acc, r => match fixL r 1 with | (x, t, e) => if e ≠ 0 then ([], [], e) else u8N k (acc ++ [x]) t
theorem u8N_go {k : Nat} {acc : List Int} {r : List Int} {x : Int} {t : List Int} (h : fixL r 1 = (x, t, 0)) : u8N (k + 1) acc r = u8N k (acc ++ [x]) t := by
  show (match fixL r 1 with | (x, t, e) => if e ≠ 0 then (([] : List Int), ([] : List Int), e) else u8N k (acc ++ [x]) t) = _
  rw [h]; rfl
theorem u8N_stop {k : Nat} {acc : List Int} {r : List Int} {x : Int} {t : List Int} {e : Int} (h : fixL r 1 = (x, t, e)) (he : e ≠ 0) : u8N (k + 1) acc r = ([], [], e) := by
  show (match fixL r 1 with | (x, t, e) => if e ≠ 0 then (([] : List Int), ([] : List Int), e) else u8N k (acc ++ [x]) t) = _
  rw [h]; exact if_pos he
/-- What stands behind the hash. -/
def decT (m : MsgT) (r : List Int) : MsgT × Int :=
  match hashS (r, 0) with
  | (h, (r1, e1)) => if e1 ≠ 0 then (msg0, e1) else
  match readL r1 with
  | (x, r2, e2) => if e2 ≠ 0 then (msg0, e2) else if r2 ≠ [] then (msg0, 42) else
  if mayM { m with hash := h, block := strOfNums x } = false then (msg0, 1) else ({ m with hash := h, block := strOfNums x }, 0)
/-- What stands behind the log. -/
def decL (m : MsgT) (r : List Int) : MsgT × Int :=
  match fixL r 1 with
  | (cl, r1, e1) => if e1 ≠ 0 then (msg0, e1) else
  match fixL r1 4 with
  | (sq, r2, e2) => if e2 ≠ 0 then (msg0, e2) else
  match fixL r2 2 with
  | (er, r3, e3) => if e3 ≠ 0 then (msg0, e3) else
  match listU 8 r3 with
  | (ids, r4, e4) => if e4 ≠ 0 then (msg0, e4) else
  match progR r4 with
  | (V, r5, e5) => if e5 ≠ 0 then (msg0, e5) else
  decT { m with client := cl, seq := sq, reply := ⟨er, ids, V⟩ } r5
/-- Which message bytes are. -/
def decP (r : List Int) : MsgT × Int :=
  match u8N 3 [] r with
  | (l, r1, e1) => if e1 ≠ 0 then (msg0, e1) else
  match fixL r1 4 with
  | (vw, r2, e2) => if e2 ≠ 0 then (msg0, e2) else
  match fixL r2 4 with
  | (la, r3, e3) => if e3 ≠ 0 then (msg0, e3) else
  match fixL r3 1 with
  | (n, r4, e4) => if e4 ≠ 0 then (msg0, e4) else
  match fixL r4 1 with
  | (cm, r5, e5) => if e5 ≠ 0 then (msg0, e5) else
  match listR 40 r5 with
  | (lg, r6, e6) => if e6 ≠ 0 then (msg0, e6) else
  decL { msg0 with kind := l.getD 0 0, src := l.getD 1 0, dst := l.getD 2 0, view := vw, last := la, n := n, commit := cm, log := lg } r6
def DecPost (A : St) (p : MsgT × Int) (e : Ending) (A' : St) : Prop := ∃ cs, e = .returned (.tuple #[.agg cs.toArray, .int .i64 p.2]) ∧ Over A A' ∧ MsgC A' p.1 cs
def msgZ : List Value := .int .i64 0 :: .int .i64 0 :: .int .i64 0 :: .int .u32 0 :: .int .u32 0 :: .int .i64 0 :: .int .i64 0 :: .slice none 0 0 :: .int .i64 0 :: .int .u32 0 :: .int .i64 0 :: .slice none 0 0 :: .int .u32 0 :: .slice none 0 0 :: .slice none 0 0 :: .slice none 0 0 :: (hsC zeroH ++ [.string ByteArray.empty])
theorem msgZ_len : msgZ.length = 49 := rfl
theorem msgZ_cell : msgZ.all cell1 = true := rfl
theorem RqV.nil (A : St) : RqV A [] (.slice none 0 0) := ⟨([] : List (List Value)), .nil, by simp, View.nil ..⟩
theorem msgZ_c (A : St) : MsgC A msg0 msgZ := ⟨_, _, _, _, _, rfl, RqV.nil A, View.nil .., View.nil .., View.nil .., View.nil ..⟩
theorem buildM : abuild Try.prog 45 #[] = some (.agg msgZ.toArray) := by kernel_rfl
/-- What stays, while a message is read. -/
structure DJ (A : St) (mc : List Value) (t : List Int) (A' : St) : Prop where
  ov : Over A A'
  n : A.next + 4 ≤ A'.next
  ms : A'.get A.next = some (.cells mc 45 (some 0))
  er : A'.get (A.next + 1) = some (.cells [.int .i64 0] 38 (some 0))
  rd : A'.get (A.next + 2) = some (rdW t)
  cl : A'.get (A.next + 3) = some (.cells [.pointer (some ⟨A.next + 2, 0, none⟩)] 76 (some 0))
theorem DJ.ext {A A' A2 : St} {mc : List Value} {t : List Int} (h : DJ A mc t A') (o : Over A' A2) : DJ A mc t A2 := by
  have hn := h.n
  exact ⟨h.ov.trans o, Nat.le_trans hn o.next, (o.get _ (by omega)).trans h.ms, (o.get _ (by omega)).trans h.er, (o.get _ (by omega)).trans h.rd, (o.get _ (by omega)).trans h.cl⟩
theorem DJ.rdr {A A' : St} {mc : List Value} {t : List Int} (h : DJ A mc t A') (s : List Int) : DJ A mc s (A'.upd (A.next + 2) (some (rdW s))) := by
  refine ⟨h.ov.upd (by omega) _, h.n, ?_, ?_, get_upd_same .., ?_⟩
  · rw [get_upd_old (by omega)]; exact h.ms
  · rw [get_upd_old (by omega)]; exact h.er
  · rw [get_upd_old (by omega)]; exact h.cl
theorem DJ.set {A A' : St} {mc : List Value} {t : List Int} (h : DJ A mc t A') (mc' : List Value) : DJ A mc' t (A'.upd A.next (some (.cells mc' 45 (some 0)))) := by
  refine ⟨h.ov.upd (Nat.le_refl _) _, h.n, get_upd_same .., ?_, ?_, ?_⟩
  · rw [get_upd_old (by omega)]; exact h.er
  · rw [get_upd_old (by omega)]; exact h.rd
  · rw [get_upd_old (by omega)]; exact h.cl
theorem dec1_ok (w0 : World) (A : St) (a : Nat) (z : List Value) (hz : z.length = 49) (ha : A.get a = some (.cells z 45 (some 0))) : ACalls Try.prog w0 40 #[.pointer (some ⟨a, 0, none⟩)] A (fin (.tuple #[]) (A.upd a (some (.cells msgZ 45 (some 0))))) := by
  refine call_E Try.enters40 Try.func40 rfl (Nat.le_of_ble_eq_true rfl) fun hw hbd => ?_
  have hst := stN (n := 49) (X := A) (b := a) (z := z) (cs := msgZ) (e := 45) hz msgZ_len msgZ_cell
  have hb := buildM
  simp (maxSteps := 1000000) (disch := (first | omega | (simp only [nx_alloc, nx_upd, len_cons, len_nil, List.length_set, List.length_map, List.length_append] <;> omega) | fail)) only [go_sem, Try.ntmps40, Try.results40, hb, ha, hst]
  exact gc_here ⟨rfl, rfl⟩
theorem dec_failE {w0 : World} {A X : St} {mc : List Value} {r0 : List Int} {e y : Int} {ρ : Nat → Value} (ov : Over A X) (ms : X.get A.next = some (.cells mc 45 (some 0))) (er : X.get (A.next + 1) = some (.cells [.int .i64 y] 38 (some 0))) (hl : mc.length = 49) (h2 : ρ 2 = .pointer (some ⟨A.next, 0, none⟩)) (h3 : ρ 3 = .pointer (some ⟨A.next + 1, 0, none⟩)) (hp : decP r0 = (msg0, e)) :
    leaveFR Try.prog w0 39 #[.pointer (some ⟨A.next + 1, 0, none⟩), .func (.func 40) #[] #[.pointer (some ⟨A.next, 0, none⟩)]] (some (pE e)) X (leaveKR Try.prog w0 Try.f16 (tm 103 ρ) (GcE A (DecPost A (decP r0))) none []) := by
  refine leaveR_none Try.enters39 (caught_some w0 _ _ (A.next + 1) e y 38 40 [.pointer (some ⟨A.next, 0, none⟩)] (by kernel_rfl) er (dec1_ok w0 _ A.next mc hl (by rw [get_upd_old (by omega)]; exact ms))) ?_
  have hld := ldN (n := 49) (cs := msgZ) (e := 45) (m := some 0) msgZ_len
  rw [hp]
  generalize hmz : msgZ = mz at *
  simp (maxSteps := 1000000) (disch := (first | omega | (simp only [nx_alloc, nx_upd, len_cons, len_nil, List.length_set, List.length_map, List.length_append] <;> omega) | fail)) only [go_sem, leaveKR_nil, Try.results16, h2, h3, hld]
  exact gc_here ⟨mz, rfl, (ov.upd (by omega) _).upd (Nat.le_refl _) _, hmz ▸ msgZ_c _⟩
theorem dec_fail {w0 : World} {A X : St} {mc : List Value} {r0 t : List Int} {e : Int} {ρ : Nat → Value} (j : DJ A mc t X) (hl : mc.length = 49) (h2 : ρ 2 = .pointer (some ⟨A.next, 0, none⟩)) (h3 : ρ 3 = .pointer (some ⟨A.next + 1, 0, none⟩)) (hp : decP r0 = (msg0, e)) :
    leaveFR Try.prog w0 39 #[.pointer (some ⟨A.next + 1, 0, none⟩), .func (.func 40) #[] #[.pointer (some ⟨A.next, 0, none⟩)]] (some (pE e)) X (leaveKR Try.prog w0 Try.f16 (tm 103 ρ) (GcE A (DecPost A (decP r0))) none []) := dec_failE j.ov j.ms j.er hl h2 h3 hp
theorem DJ.err {A A' : St} {mc : List Value} {t : List Int} (h : DJ A mc t A') : DJ A mc t (A'.upd (A.next + 1) (some (.cells [.int .i64 0] 38 (some 0)))) := by
  refine ⟨h.ov.upd (by omega) _, h.n, ?_, get_upd_same .., ?_, ?_⟩
  · rw [get_upd_old (by omega)]; exact h.ms
  · rw [get_upd_old (by omega)]; exact h.rd
  · rw [get_upd_old (by omega)]; exact h.cl
theorem copy_strM {P : Program} {A : St} {b dT : Nat} {e : TypeId} {s : ByteArray} {pre z post : List Value} (hp : pre.length = 16) (hz : z.length = 32) (hel : telem P dT = some 5) (hsz : tsz P 5 = some 1) (hb : A.get b = some (.cells (pre ++ (z ++ post)) e (some 0))) (hs : 32 ≤ s.size) :
    acopy P A dT (.slice (some ⟨b, 16, none⟩) 32 32) (.string s) = some (.int .i64 32, A.upd b (some (.cells (pre ++ (((nums s).take 32).map (.int .u8 ·) ++ post)) e (some 0)))) := by
  have hmin : Nat.min s.size 32 = 32 := Nat.min_eq_right hs
  have hl : (((nums s).take 32).map (Value.int .u8 ·)).length = 32 := by rw [List.length_map, List.length_take, nums_length]; omega
  have hc : (((nums s).take 32).map (Value.int .u8 ·)).all cell1 = true := by rw [List.all_map, List.all_eq_true]; intro x _; rfl
  have hset := setList_at0 (((nums s).take 32).map (Value.int .u8 ·)) pre z post (by rw [hl, hz])
  rw [hp] at hset
  unfold acopy
  simp only [hel, hsz, srcCells_string, hmin, hb, bcells_nums, Nat.mul_one, ← List.map_take]
  rw [if_neg (by decide), if_pos ⟨Nat.zero_le _, by simp only [List.length_append]; omega, hc⟩, hset]
  rfl
/-- What is above stays. -/
def KeepLo (lo : Nat) (X Y : St) : Prop := X.next ≤ Y.next ∧ ∀ b, lo ≤ b → b < X.next → Y.get b = X.get b
theorem KeepLo.go {lo a c : Nat} {X Y : St} {B1 B2 : Option Blk} (ha : a < lo) (hc : c < lo) (o : Over (X.upd c B1) Y) : KeepLo lo X (Y.upd a B2) := ⟨o.next, fun b hb hlt => by rw [get_upd_old (by omega), o.get b hlt, get_upd_old (by omega)]⟩
theorem KeepLo.two {lo a c : Nat} {X : St} {B1 B2 : Option Blk} (ha : a < lo) (hc : c < lo) : KeepLo lo X ((X.upd c B1).upd a B2) := KeepLo.go ha hc (Over.refl _)
theorem KeepLo.one {lo a : Nat} {X : St} {B1 : Option Blk} (ha : a < lo) : KeepLo lo X (X.upd a B1) := ⟨Nat.le_refl _, fun b hb hlt => get_upd_old (by omega)⟩
theorem LgRow.kp {X Y : St} {lo : Nat} {l : List ReqT} {v : Value} (h : LgRow X lo l v) (k : KeepLo lo X Y) : LgRow Y lo l v := h.keep k.1 k.2 (Nat.le_refl _)
theorem Row.kp {X Y : St} {e sz lo : Nat} {cs : List Value} {len : Nat} {v : Value} (h : Row X e sz lo cs len v) (k : KeepLo lo X Y) : Row Y e sz lo cs len v := h.keep k.1 (fun b _ h1 h2 => k.2 b h1 h2) (Nat.le_refl _)
theorem VerRow.kp {X Y : St} {lo : Nat} {V : VerT} {v : Value} (h : VerRow X lo V v) (k : KeepLo lo X Y) : VerRow Y lo V v := h.keep k.1 k.2 (Nat.le_refl _)
theorem LgRow.one {X : St} {lo : Nat} {l : List ReqT} {v : Value} (h : LgRow X lo l v) : one1 v = true := by
  obtain ⟨_, _, h⟩ := h; obtain ⟨ad, c, rfl⟩ := View.sl (Row.view h); rfl
theorem Row.one1' {X : St} {e sz lo : Nat} {cs : List Value} {len : Nat} {v : Value} (h : Row X e sz lo cs len v) : one1 v = true := by
  obtain ⟨ad, c, rfl⟩ := View.sl (Row.view h); rfl
theorem reqN_rw : ∀ (k : Nat) (acc : List ReqT) (r : List Int) (l : List ReqT) (t : List Int), RW r → reqN k acc r = (l, t, 0) → RW t ∧ ∃ l', l = acc ++ l' ∧ l'.length = k ∧ r = logL l' ++ t ∧ ∀ x ∈ l', rightB x = true ∧ x.okA ∧ x.op.v.small
  | 0, acc, r, l, t, hr, h => by
    injection h with h1 h2; injection h2 with h2 _; subst h1 h2
    exact ⟨hr, [], by simp, rfl, by simp [logL], by simp⟩
  | k + 1, acc, r, l, t, hr, h => by
    rcases h1 : reqP r with ⟨x, s, e⟩
    by_cases he : e = 0
    · subst he
      rw [reqN_go h1] at h
      obtain ⟨a1, a2, a3, a4, a5⟩ := reqP_inv hr h1
      obtain ⟨q1, l', q2, q3, q4, q5⟩ := reqN_rw k (acc ++ [x]) s l t a5 h
      refine ⟨q1, x :: l', by rw [q2]; simp, by simp [q3], ?_, fun y hy => ?_⟩
      · rw [a4, q4]; simp [logL]
      · rcases List.mem_cons.1 hy with rfl | hy
        · exact ⟨a1, a2, a3⟩
        · exact q5 y hy
    · rw [reqN_stop h1 he] at h
      injection h with _ h; injection h with _ h; exact absurd h he
theorem u32N_rw : ∀ (k : Nat) (acc : List Int) (r : List Int) (l : List Int) (t : List Int), RW r → u32N k acc r = (l, t, 0) → RW t ∧ ∃ l', l = acc ++ l' ∧ l'.length = k ∧ r = idsL l' ++ t ∧ ∀ x ∈ l', 0 ≤ x ∧ x < 4294967296
  | 0, acc, r, l, t, hr, h => by
    injection h with h1 h2; injection h2 with h2 _; subst h1 h2
    exact ⟨hr, [], by simp, rfl, by simp [idsL], by simp⟩
  | k + 1, acc, r, l, t, hr, h => by
    rcases h1 : fixL r 4 with ⟨x, s, e⟩
    by_cases he : e = 0
    · subst he
      rw [u32N_go h1] at h
      obtain ⟨a1, _, a2, a3, _, _⟩ := fixL_facts hr (by omega) (by omega) h1
      obtain ⟨q1, l', q2, q3, q4, q5⟩ := u32N_rw k (acc ++ [x]) s l t a1 h
      have a4 := fixL_inv hr (by omega) (by omega) h1
      change r = bigL x.toNat 4 ++ s at a4
      refine ⟨q1, x :: l', by rw [q2]; simp, by simp [q3], ?_, fun y hy => ?_⟩
      · rw [a4, q4]; simp [idsL]
      · rcases List.mem_cons.1 hy with rfl | hy
        · exact ⟨a2, a3⟩
        · exact q5 y hy
    · rw [u32N_stop h1 he] at h
      injection h with _ h; injection h with _ h; exact absurd h he
theorem listR_rw {most : Int} {r : List Int} {l : List ReqT} {t : List Int} (hr : RW r) (h : listR most r = (l, t, 0)) : RW t ∧ (l.length : Int) ≤ most ∧ r = bigL l.length 1 ++ logL l ++ t ∧ ∀ x ∈ l, rightB x = true ∧ x.okA ∧ x.op.v.small := by
  unfold listR at h
  rcases h1 : fixL r 1 with ⟨n, s, e⟩
  obtain ⟨a1, _, a2, a3, _, _⟩ := fixL_facts hr (by omega) (by omega) h1
  rw [h1] at h
  simp only at h
  by_cases he : e = 0
  · subst he
    rw [if_neg (by simp)] at h
    by_cases hm : n > most
    · rw [if_pos hm] at h; cases h
    rw [if_neg hm] at h
    obtain ⟨q1, l', q2, q3, q4, q5⟩ := reqN_rw _ _ _ _ _ a1 h
    rw [List.nil_append] at q2
    subst q2
    have a4 := fixL_inv hr (by omega) (by omega) h1
    rw [q3] at *
    refine ⟨q1, by omega, ?_, q5⟩
    rw [a4, q4, List.append_assoc]; rfl
  · rw [if_pos he] at h
    injection h with _ h; injection h with _ h; exact absurd h he
theorem listU_rw {most : Int} {r : List Int} {l : List Int} {t : List Int} (hr : RW r) (h : listU most r = (l, t, 0)) : RW t ∧ (l.length : Int) ≤ most ∧ r = bigL l.length 1 ++ idsL l ++ t ∧ ∀ x ∈ l, 0 ≤ x ∧ x < 4294967296 := by
  unfold listU at h
  rcases h1 : fixL r 1 with ⟨n, s, e⟩
  obtain ⟨a1, _, a2, a3, _, _⟩ := fixL_facts hr (by omega) (by omega) h1
  rw [h1] at h
  simp only at h
  by_cases he : e = 0
  · subst he
    rw [if_neg (by simp)] at h
    by_cases hm : n > most
    · rw [if_pos hm] at h; cases h
    rw [if_neg hm] at h
    obtain ⟨q1, l', q2, q3, q4, q5⟩ := u32N_rw _ _ _ _ _ a1 h
    rw [List.nil_append] at q2
    subst q2
    have a4 := fixL_inv hr (by omega) (by omega) h1
    rw [q3] at *
    refine ⟨q1, by omega, ?_, q5⟩
    rw [a4, q4, List.append_assoc]; rfl
  · rw [if_pos he] at h
    injection h with _ h; injection h with _ h; exact absurd h he
end Go.Fw
