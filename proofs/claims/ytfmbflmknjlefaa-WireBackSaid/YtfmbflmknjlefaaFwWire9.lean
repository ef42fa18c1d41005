import Derived.Test.YtfmbflmknjlefaaFwWire8
set_option linter.unusedSimpArgs false
set_option linter.unusedVariables false
set_option maxRecDepth 4000
namespace Go.Fw
open Go.Proofs Go.RowKit
theorem Try.enters36 : Enters Try.prog 36 := enters_of Try.func36 rfl (by kernel_rfl)
theorem Try.enters75 : Enters Try.prog 75 := enters_of Try.func75 rfl (by kernel_rfl)
theorem Try.enters15 : Enters Try.prog 15 := enters_of Try.func15 rfl (by kernel_rfl)
theorem Try.enters33 : Enters Try.prog 33 := enters_of Try.func33 rfl (by kernel_rfl)
theorem Try.enters34 : Enters Try.prog 34 := enters_of Try.func34 rfl (by kernel_rfl)
theorem wwrong_ok (w0 : World) (A : St) (r : ReqT) (rc : List Value) (hr : ReqC A r rc) (hs : r.op.v.small) : ACalls Try.prog w0 33 #[.agg rc.toArray] A (fin (.bool (!rightB r)) A) := by
  refine call_E Try.enters33 Try.func33 rfl (Nat.le_of_ble_eq_true rfl) fun hw hbd => ?_
  have hld8 := ldN (n := 8) (cs := rc) (e := 31) (m := some 0) hr.len
  obtain ⟨A1, hA1⟩ : ∃ A1, A1 = A.alloc (.cells rc 31 (some 0)) := ⟨_, rfl⟩
  have o1 : Over A A1 := hA1 ▸ (Over.refl A).alloc _
  simp (maxSteps := 1000000) (disch := (first | omega | (simp only [nx_alloc, nx_upd, len_cons, len_nil, List.length_set, List.length_map, List.length_append] <;> omega) | fail)) only [go_sem, Try.ntmps33, Try.results33, hld8]
  rw [← hA1]
  refine call1 (right_ok w0 A1 r rc (hr.ge o1.ge) hs) ?_
  cases rightB r
  · simp (maxSteps := 1000000) (disch := (first | omega | (simp only [nx_alloc, nx_upd, len_cons, len_nil, List.length_set, List.length_map, List.length_append] <;> omega) | fail)) only [go_sem, Try.results33]
    exact gc_fin hw o1 (.bool _)
  · simp (maxSteps := 1000000) (disch := (first | omega | (simp only [nx_alloc, nx_upd, len_cons, len_nil, List.length_set, List.length_map, List.length_append] <;> omega) | fail)) only [go_sem, Try.results33]
    exact gc_fin hw o1 (.bool _)
def opsB (n : Int) : Bool := decide (0 ≤ n ∧ n ≤ 40)
theorem ops_ok (w0 : World) (A : St) (n : Int) : ACalls Try.prog w0 34 #[.int .i64 n] A (fin (.bool (opsB n)) A) := by
  refine call_E Try.enters34 Try.func34 rfl (Nat.le_of_ble_eq_true rfl) fun hw hbd => ?_
  by_cases h0 : 0 ≤ n
  · by_cases h1 : n ≤ 40
    · simp (maxSteps := 1000000) (disch := (first | omega | (simp only [nx_alloc, nx_upd, len_cons, len_nil, List.length_set, List.length_map, List.length_append] <;> omega) | fail)) only [go_sem, Try.ntmps34, Try.results34]
      exact gc_fin' hw (Over.refl _) (congrArg Value.bool (by unfold opsB; simp [h0, h1])) (.bool _)
    · simp (maxSteps := 1000000) (disch := (first | omega | (simp only [nx_alloc, nx_upd, len_cons, len_nil, List.length_set, List.length_map, List.length_append] <;> omega) | fail)) only [go_sem, Try.ntmps34, Try.results34]
      exact gc_fin' hw (Over.refl _) (congrArg Value.bool (by unfold opsB; simp [h0, h1])) (.bool _)
  · simp (maxSteps := 1000000) (disch := (first | omega | (simp only [nx_alloc, nx_upd, len_cons, len_nil, List.length_set, List.length_map, List.length_append] <;> omega) | fail)) only [go_sem, Try.ntmps34, Try.results34]
    exact gc_fin' hw (Over.refl _) (congrArg Value.bool (by unfold opsB; simp [h0])) (.bool _)
set_option maxHeartbeats 2000000 in
theorem rqindex_ok (w0 : World) (A : St) (l : List ReqT) (v : Value) (hv : RqV A l v) (hs : ∀ r ∈ l, r.op.v.small) (hl : l.length ≤ 1048576) : ACalls Try.prog w0 75 #[v, .func (.func 33) #[] #[]] A fun e A' => ∃ r : Int, e = .returned (.int .i64 r) ∧ A' = A ∧ ((0 ≤ r) ↔ l.all rightB = false) := by
  refine call_E Try.enters75 Try.func75 rfl (Nat.le_of_ble_eq_true rfl) fun hw hbd => ?_
  have hlen := NV.lenU (e := 31) hv
  simp (maxSteps := 1000000) (disch := (first | omega | (simp only [nx_alloc, nx_upd, len_cons, len_nil, List.length_set, List.length_map, List.length_append] <;> omega) | fail)) only [go_sem, Try.ntmps75, Try.results75, hlen]
  refine aw_loop (fun k x A' => ∃ (ρ : Nat → Value) (i : Nat), x = E 19 ρ [] ∧ A' = A ∧ k = l.length - i ∧ i ≤ l.length ∧ (l.take i).all rightB = true ∧
      ρ 0 = v ∧ ρ 1 = .func (.func 33) #[] #[] ∧ ρ 7 = .int .i64 l.length ∧ ρ 8 = .int .i64 i) l.length
    ⟨_, 0, rfl, rfl, rfl, Nat.zero_le _, rfl, rfl, rfl, rfl, rfl⟩ ?_
  rintro k x A' ⟨ρ, i, rfl, rfl, hk, hi, hno, g0, g1, g7, g8⟩
  refine aw_of ?_
  by_cases hend : i = l.length
  · have e1 : ¬ ((i : Int) < l.length) := by omega
    rw [hend, List.take_length] at hno
    simp (maxSteps := 1000000) (disch := (first | omega | (simp only [nx_alloc, nx_upd, len_cons, len_nil, List.length_set, List.length_map, List.length_append] <;> omega) | fail)) only [go_sem, g0, g1, g7, g8, Try.results75]
    exact gc_here ⟨-1, rfl, rfl, by rw [hno]; simp⟩
  have e1 : ((i : Int) < l.length) := by omega
  obtain ⟨r, hr⟩ : ∃ r, l[i]? = some r := ⟨l[i]'(by omega), List.getElem?_eq_getElem (by omega)⟩
  obtain ⟨b, off, qc, q1, q2, q3, q4, cells, e', m, q5, q6, q7⟩ := hv.at (P := Try.prog) (e := 31) Try.sz31 hr
  have hldq := ld_agg (e' := e') (m := m) q6 q7
  simp (maxSteps := 1000000) (disch := (first | omega | (simp only [nx_alloc, nx_upd, len_cons, len_nil, List.length_set, List.length_map, List.length_append] <;> omega) | fail)) only [go_sem, g0, g1, g7, g8, q2, q5, hldq]
  refine call1 (wwrong_ok w0 A' r qc q3 (hs r (List.mem_of_getElem? hr))) ?_
  cases hlo : rightB r
  · simp (maxSteps := 1000000) (disch := (first | omega | (simp only [nx_alloc, nx_upd, len_cons, len_nil, List.length_set, List.length_map, List.length_append] <;> omega) | fail)) only [go_sem, g8, Try.results75]
    refine gc_here ⟨i, rfl, rfl, ?_⟩
    have : l.all rightB = false := List.all_eq_false.2 ⟨_, List.mem_of_getElem? hr, by rw [hlo]; simp⟩
    rw [this]; simp
  · simp (maxSteps := 1000000) (disch := (first | omega | (simp only [nx_alloc, nx_upd, len_cons, len_nil, List.length_set, List.length_map, List.length_append] <;> omega) | fail)) only [go_sem, g8]
    refine ⟨k - 1, by omega, _, i + 1, rfl, by omega, by omega, ?_, ?_, ?_, ?_, ?_⟩
    · rw [List.take_add_one, hr, List.all_append, hno]; simp [hlo]
    · simp (maxSteps := 1000000) (disch := (first | omega | (simp only [nx_alloc, nx_upd, len_cons, len_nil, List.length_set, List.length_map, List.length_append] <;> omega) | fail)) only [go_sem, g0]
    · simp (maxSteps := 1000000) (disch := (first | omega | (simp only [nx_alloc, nx_upd, len_cons, len_nil, List.length_set, List.length_map, List.length_append] <;> omega) | fail)) only [go_sem, g1]
    · simp (maxSteps := 1000000) (disch := (first | omega | (simp only [nx_alloc, nx_upd, len_cons, len_nil, List.length_set, List.length_map, List.length_append] <;> omega) | fail)) only [go_sem, g7]
    · simp (maxSteps := 1000000) (disch := (first | omega | (simp only [nx_alloc, nx_upd, len_cons, len_nil, List.length_set, List.length_map, List.length_append] <;> omega) | fail)) only [go_sem]
      rfl
theorem rqcontains_ok (w0 : World) (A : St) (l : List ReqT) (v : Value) (hv : RqV A l v) (hs : ∀ r ∈ l, r.op.v.small) (hl : l.length ≤ 1048576) : ACalls Try.prog w0 36 #[v, .func (.func 33) #[] #[]] A (fin (.bool (!l.all rightB)) A) := by
  refine call_E Try.enters36 Try.func36 rfl (Nat.le_of_ble_eq_true rfl) fun hw hbd => ?_
  simp (maxSteps := 1000000) (disch := (first | omega | (simp only [nx_alloc, nx_upd, len_cons, len_nil, List.length_set, List.length_map, List.length_append] <;> omega) | fail)) only [go_sem, Try.ntmps36, Try.results36]
  refine (rqindex_ok w0 A l v hv hs hl).mono ?_
  rintro e A' ⟨r, rfl, rfl, hr⟩
  simp (maxSteps := 1000000) (disch := (first | omega | (simp only [nx_alloc, nx_upd, len_cons, len_nil, List.length_set, List.length_map, List.length_append] <;> omega) | fail)) only [go_sem, Try.results36]
  refine gc_fin' hw (Over.refl _) (congrArg Value.bool ?_) (.bool _)
  rw [Bool.eq_iff_iff, decide_eq_true_iff, hr]; simp
/-- A message. -/
structure MsgT where
  kind : Int
  src : Int
  dst : Int
  view : Int
  last : Int
  n : Int
  commit : Int
  log : List ReqT
  client : Int
  seq : Int
  reply : ReplyT
  hash : HashT
  block : ByteArray
def MsgC (A : St) (m : MsgT) (cs : List Value) : Prop := ∃ lg w p q u, cs = .int .i64 m.kind :: .int .i64 m.src :: .int .i64 m.dst :: .int .u32 m.view :: .int .u32 m.last :: .int .i64 m.n :: .int .i64 m.commit :: lg :: .int .i64 m.client :: .int .u32 m.seq :: .int .i64 m.reply.e :: w :: .int .u32 m.reply.v.id :: p :: q :: u :: (hsC m.hash ++ [.string m.block]) ∧
  RqV A m.log lg ∧ IdView A m.reply.ids w ∧ HsView A m.reply.v.blocks p ∧ StView A m.reply.v.names q ∧ InView A m.reply.v.sizes u
theorem MsgC.ge {A A' : St} {m : MsgT} {cs : List Value} (h : MsgC A m cs) (g : Ge A A') : MsgC A' m cs := by
  obtain ⟨lg, w, p, q, u, h0, h1, h2, h3, h4, h5⟩ := h
  exact ⟨lg, w, p, q, u, h0, h1.ge g, View.ge h2 g, View.ge h3 g, View.ge h4 g, View.ge h5 g⟩
theorem MsgC.len {A : St} {m : MsgT} {cs : List Value} (h : MsgC A m cs) : cs.length = 49 := by
  obtain ⟨lg, w, p, q, u, rfl, _⟩ := h
  have := hsC_len m.hash
  simp only [List.length_cons, List.length_append, List.length_nil]; omega
/-- What is not too much. -/
def MsgT.small (m : MsgT) : Prop := (∀ r ∈ m.log, r.op.v.small) ∧ m.reply.v.small ∧ m.log.length ≤ 1000 ∧ m.reply.ids.length ≤ 1000 ∧ m.block.size ≤ 2000000
def MsgT.okA (m : MsgT) : Prop := i64Ok m.kind ∧ i64Ok m.src ∧ i64Ok m.dst ∧ (0 ≤ m.view ∧ m.view < 4294967296) ∧ (0 ≤ m.last ∧ m.last < 4294967296) ∧ i64Ok m.n ∧ i64Ok m.commit ∧ (∀ r ∈ m.log, r.okA) ∧ (0 ≤ m.seq ∧ m.seq < 4294967296) ∧ (∀ i ∈ m.reply.ids, 0 ≤ i ∧ i < 4294967296) ∧ m.reply.v.ok ∧ hsOk m.hash
def mayM (m : MsgT) : Bool := decide (1 ≤ m.kind) && decide (m.kind ≤ 14) && endB m.src && endB m.dst && opsB m.n && opsB m.commit && opsB m.log.length && m.log.all rightB && cliB m.client && decide (0 ≤ m.reply.e) && decide (m.reply.e ≤ 1000) && decide (m.reply.ids.length ≤ 8) && mayB m.reply.v && decide (m.block.size ≤ 1000)
theorem blk_at (h : HashT) (x : Value) : (hsC h ++ [x])[32]? = some x := by
  rw [List.getElem?_append_right (by rw [hsC_len]; exact Nat.le_refl _), hsC_len]; rfl
theorem View.sl {A : St} {sz len : Nat} {cs : List Value} {v : Value} (h : View A sz cs len v) : ∃ ad c, v = .slice ad len c := by
  rcases h.2 with ⟨rfl, ad, c, rfl⟩ | ⟨b, off, sp, c, cells, e, m, rfl, _⟩
  · exact ⟨_, _, rfl⟩
  · exact ⟨_, _, rfl⟩
theorem NV.sl {α : Type} {A : St} {sz : Nat} {E : α → List Value → Prop} {l : List α} {v : Value} (h : NV A sz E l v) : ∃ ad c, v = .slice ad l.length c := by
  obtain ⟨css, _, _, h⟩ := h; exact View.sl h
set_option maxHeartbeats 16000000 in
theorem wmay_ok (w0 : World) (A : St) (m : MsgT) (mc : List Value) (hm : MsgC A m mc) (hs : m.small) (i2 : i64Ok m.src) (i3 : i64Ok m.dst) : ACalls Try.prog w0 15 #[.agg mc.toArray] A (fin (.bool (mayM m)) A) := by
  have hml := hm.len
  obtain ⟨s1, s2, s3, s4, s5⟩ := hs
  obtain ⟨lg, w, p, q, u, rfl, v1, v2, v3, v4, v5⟩ := hm
  obtain ⟨ad, ac, rfl⟩ := NV.sl v1
  obtain ⟨bd, bc, rfl⟩ := View.sl v2
  refine call_E Try.enters15 Try.func15 rfl (Nat.le_of_ble_eq_true rfl) fun hw hbd => ?_
  obtain ⟨A1, hA1⟩ : ∃ A1, A1 = A.alloc (.cells (.int .i64 m.kind :: .int .i64 m.src :: .int .i64 m.dst :: .int .u32 m.view :: .int .u32 m.last :: .int .i64 m.n :: .int .i64 m.commit :: .slice ad m.log.length ac :: .int .i64 m.client :: .int .u32 m.seq :: .int .i64 m.reply.e :: .slice bd m.reply.ids.length bc :: .int .u32 m.reply.v.id :: p :: q :: u :: (hsC m.hash ++ [.string m.block])) 45 (some 0)) := ⟨_, rfl⟩
  have o1 : Over A A1 := hA1 ▸ (Over.refl A).alloc _
  have g1 : A1.get A.next = some (.cells (.int .i64 m.kind :: .int .i64 m.src :: .int .i64 m.dst :: .int .u32 m.view :: .int .u32 m.last :: .int .i64 m.n :: .int .i64 m.commit :: .slice ad m.log.length ac :: .int .i64 m.client :: .int .u32 m.seq :: .int .i64 m.reply.e :: .slice bd m.reply.ids.length bc :: .int .u32 m.reply.v.id :: p :: q :: u :: (hsC m.hash ++ [.string m.block])) 45 (some 0)) := by rw [hA1]; exact get_alloc_same ..
  have hbk := blk_at m.hash (.string m.block)
  have ldV := ld_agg (sz := 4) (off := 12) (e' := 45) (m := some 0) (cells := .int .i64 m.kind :: .int .i64 m.src :: .int .i64 m.dst :: .int .u32 m.view :: .int .u32 m.last :: .int .i64 m.n :: .int .i64 m.commit :: .slice ad m.log.length ac :: .int .i64 m.client :: .int .u32 m.seq :: .int .i64 m.reply.e :: .slice bd m.reply.ids.length bc :: .int .u32 m.reply.v.id :: p :: q :: u :: (hsC m.hash ++ [.string m.block])) (cs := [.int .u32 m.reply.v.id, p, q, u]) (by rw [hml]; omega) rfl
  simp (maxSteps := 1000000) (disch := (first | omega | (simp only [nx_alloc, nx_upd, len_cons, len_nil, List.length_set, List.length_map, List.length_append] <;> omega) | fail)) only [go_sem, Try.ntmps15, Try.results15]
  rw [← hA1]
  by_cases b0 : 1 ≤ m.kind
  rotate_left
  · simp (maxSteps := 1000000) (disch := (first | omega | (simp only [nx_alloc, nx_upd, len_cons, len_nil, List.length_set, List.length_map, List.length_append] <;> omega) | fail)) only [go_sem, g1, hbk, ldV, b0, Try.results15]
    exact gc_fin' hw o1 (congrArg Value.bool (by unfold mayM; simp [b0])) (.bool _)
  try simp (maxSteps := 1000000) (disch := (first | omega | (simp only [nx_alloc, nx_upd, len_cons, len_nil, List.length_set, List.length_map, List.length_append] <;> omega) | fail)) only [go_sem, g1, b0, hbk, ldV]
  by_cases b1 : m.kind ≤ 14
  rotate_left
  · simp (maxSteps := 1000000) (disch := (first | omega | (simp only [nx_alloc, nx_upd, len_cons, len_nil, List.length_set, List.length_map, List.length_append] <;> omega) | fail)) only [go_sem, g1, hbk, ldV, b1, Try.results15]
    exact gc_fin' hw o1 (congrArg Value.bool (by unfold mayM; simp [b0, b1])) (.bool _)
  try simp (maxSteps := 1000000) (disch := (first | omega | (simp only [nx_alloc, nx_upd, len_cons, len_nil, List.length_set, List.length_map, List.length_append] <;> omega) | fail)) only [go_sem, g1, b1, hbk, ldV]
  refine call1 (end_ok w0 A1 m.src i2) ?_
  cases b2 : endB m.src
  · simp (maxSteps := 1000000) (disch := (first | omega | (simp only [nx_alloc, nx_upd, len_cons, len_nil, List.length_set, List.length_map, List.length_append] <;> omega) | fail)) only [go_sem, g1, hbk, ldV, Try.results15]
    exact gc_fin' hw o1 (congrArg Value.bool (by unfold mayM; simp [b0, b1, b2])) (.bool _)
  simp (maxSteps := 1000000) (disch := (first | omega | (simp only [nx_alloc, nx_upd, len_cons, len_nil, List.length_set, List.length_map, List.length_append] <;> omega) | fail)) only [go_sem, g1, hbk, ldV]
  refine call1 (end_ok w0 A1 m.dst i3) ?_
  cases b3 : endB m.dst
  · simp (maxSteps := 1000000) (disch := (first | omega | (simp only [nx_alloc, nx_upd, len_cons, len_nil, List.length_set, List.length_map, List.length_append] <;> omega) | fail)) only [go_sem, g1, hbk, ldV, Try.results15]
    exact gc_fin' hw o1 (congrArg Value.bool (by unfold mayM; simp [b0, b1, b2, b3])) (.bool _)
  simp (maxSteps := 1000000) (disch := (first | omega | (simp only [nx_alloc, nx_upd, len_cons, len_nil, List.length_set, List.length_map, List.length_append] <;> omega) | fail)) only [go_sem, g1, hbk, ldV]
  refine call1 (ops_ok w0 A1 m.n) ?_
  cases b4 : opsB m.n
  · simp (maxSteps := 1000000) (disch := (first | omega | (simp only [nx_alloc, nx_upd, len_cons, len_nil, List.length_set, List.length_map, List.length_append] <;> omega) | fail)) only [go_sem, g1, hbk, ldV, Try.results15]
    exact gc_fin' hw o1 (congrArg Value.bool (by unfold mayM; simp [b0, b1, b2, b3, b4])) (.bool _)
  simp (maxSteps := 1000000) (disch := (first | omega | (simp only [nx_alloc, nx_upd, len_cons, len_nil, List.length_set, List.length_map, List.length_append] <;> omega) | fail)) only [go_sem, g1, hbk, ldV]
  refine call1 (ops_ok w0 A1 m.commit) ?_
  cases b5 : opsB m.commit
  · simp (maxSteps := 1000000) (disch := (first | omega | (simp only [nx_alloc, nx_upd, len_cons, len_nil, List.length_set, List.length_map, List.length_append] <;> omega) | fail)) only [go_sem, g1, hbk, ldV, Try.results15]
    exact gc_fin' hw o1 (congrArg Value.bool (by unfold mayM; simp [b0, b1, b2, b3, b4, b5])) (.bool _)
  simp (maxSteps := 1000000) (disch := (first | omega | (simp only [nx_alloc, nx_upd, len_cons, len_nil, List.length_set, List.length_map, List.length_append] <;> omega) | fail)) only [go_sem, g1, hbk, ldV]
  refine call1 (ops_ok w0 A1 m.log.length) ?_
  cases b6 : opsB m.log.length
  · simp (maxSteps := 1000000) (disch := (first | omega | (simp only [nx_alloc, nx_upd, len_cons, len_nil, List.length_set, List.length_map, List.length_append] <;> omega) | fail)) only [go_sem, g1, hbk, ldV, Try.results15]
    exact gc_fin' hw o1 (congrArg Value.bool (by unfold mayM; simp [b0, b1, b2, b3, b4, b5, b6])) (.bool _)
  simp (maxSteps := 1000000) (disch := (first | omega | (simp only [nx_alloc, nx_upd, len_cons, len_nil, List.length_set, List.length_map, List.length_append] <;> omega) | fail)) only [go_sem, g1, hbk, ldV]
  refine call1 (rqcontains_ok w0 A1 m.log _ (v1.ge o1.ge) s1 (by omega)) ?_
  cases b7 : m.log.all rightB
  · simp (maxSteps := 1000000) (disch := (first | omega | (simp only [nx_alloc, nx_upd, len_cons, len_nil, List.length_set, List.length_map, List.length_append] <;> omega) | fail)) only [go_sem, g1, hbk, ldV, Try.results15]
    exact gc_fin' hw o1 (congrArg Value.bool (by unfold mayM; simp [b0, b1, b2, b3, b4, b5, b6, b7])) (.bool _)
  simp (maxSteps := 1000000) (disch := (first | omega | (simp only [nx_alloc, nx_upd, len_cons, len_nil, List.length_set, List.length_map, List.length_append] <;> omega) | fail)) only [go_sem, g1, hbk, ldV]
  refine call1 (client_ok w0 A1 m.client) ?_
  cases b8 : cliB m.client
  · simp (maxSteps := 1000000) (disch := (first | omega | (simp only [nx_alloc, nx_upd, len_cons, len_nil, List.length_set, List.length_map, List.length_append] <;> omega) | fail)) only [go_sem, g1, hbk, ldV, Try.results15]
    exact gc_fin' hw o1 (congrArg Value.bool (by unfold mayM; simp [b0, b1, b2, b3, b4, b5, b6, b7, b8])) (.bool _)
  simp (maxSteps := 1000000) (disch := (first | omega | (simp only [nx_alloc, nx_upd, len_cons, len_nil, List.length_set, List.length_map, List.length_append] <;> omega) | fail)) only [go_sem, g1, hbk, ldV]
  by_cases b9 : 0 ≤ m.reply.e
  rotate_left
  · simp (maxSteps := 1000000) (disch := (first | omega | (simp only [nx_alloc, nx_upd, len_cons, len_nil, List.length_set, List.length_map, List.length_append] <;> omega) | fail)) only [go_sem, g1, hbk, ldV, b9, Try.results15]
    exact gc_fin' hw o1 (congrArg Value.bool (by unfold mayM; simp [b0, b1, b2, b3, b4, b5, b6, b7, b8, b9])) (.bool _)
  try simp (maxSteps := 1000000) (disch := (first | omega | (simp only [nx_alloc, nx_upd, len_cons, len_nil, List.length_set, List.length_map, List.length_append] <;> omega) | fail)) only [go_sem, g1, b9, hbk, ldV]
  by_cases b10 : m.reply.e ≤ 1000
  rotate_left
  · simp (maxSteps := 1000000) (disch := (first | omega | (simp only [nx_alloc, nx_upd, len_cons, len_nil, List.length_set, List.length_map, List.length_append] <;> omega) | fail)) only [go_sem, g1, hbk, ldV, b10, Try.results15]
    exact gc_fin' hw o1 (congrArg Value.bool (by unfold mayM; simp [b0, b1, b2, b3, b4, b5, b6, b7, b8, b9, b10])) (.bool _)
  try simp (maxSteps := 1000000) (disch := (first | omega | (simp only [nx_alloc, nx_upd, len_cons, len_nil, List.length_set, List.length_map, List.length_append] <;> omega) | fail)) only [go_sem, g1, b10, hbk, ldV]
  by_cases b11 : m.reply.ids.length ≤ 8
  rotate_left
  · have b11' : ¬ ((m.reply.ids.length : Nat) : Int) ≤ 8 := by omega
    simp (maxSteps := 1000000) (disch := (first | omega | (simp only [nx_alloc, nx_upd, len_cons, len_nil, List.length_set, List.length_map, List.length_append] <;> omega) | fail)) only [go_sem, g1, hbk, ldV, b11', Try.results15]
    exact gc_fin' hw o1 (congrArg Value.bool (by unfold mayM; simp [b0, b1, b2, b3, b4, b5, b6, b7, b8, b9, b10, b11])) (.bool _)
  have b11' : ((m.reply.ids.length : Nat) : Int) ≤ 8 := by omega
  try simp (maxSteps := 1000000) (disch := (first | omega | (simp only [nx_alloc, nx_upd, len_cons, len_nil, List.length_set, List.length_map, List.length_append] <;> omega) | fail)) only [go_sem, g1, b11', hbk, ldV]
  refine call1 (may_ok w0 A1 m.reply.v _ ⟨_, _, _, rfl, View.over v3 o1, View.over v4 o1, View.over v5 o1⟩ s2) ?_
  cases b12 : mayB m.reply.v
  · simp (maxSteps := 1000000) (disch := (first | omega | (simp only [nx_alloc, nx_upd, len_cons, len_nil, List.length_set, List.length_map, List.length_append] <;> omega) | fail)) only [go_sem, g1, hbk, ldV, Try.results15]
    exact gc_fin' hw o1 (congrArg Value.bool (by unfold mayM; simp [b0, b1, b2, b3, b4, b5, b6, b7, b8, b9, b10, b11, b12])) (.bool _)
  simp (maxSteps := 1000000) (disch := (first | omega | (simp only [nx_alloc, nx_upd, len_cons, len_nil, List.length_set, List.length_map, List.length_append] <;> omega) | fail)) only [go_sem, g1, hbk, ldV]
  by_cases b13 : m.block.size ≤ 1000
  rotate_left
  · have b13' : ¬ ((m.block.size : Nat) : Int) ≤ 1000 := by omega
    simp (maxSteps := 1000000) (disch := (first | omega | (simp only [nx_alloc, nx_upd, len_cons, len_nil, List.length_set, List.length_map, List.length_append] <;> omega) | fail)) only [go_sem, g1, hbk, ldV, b13', Try.results15]
    exact gc_fin' hw o1 (congrArg Value.bool (by unfold mayM; simp [b0, b1, b2, b3, b4, b5, b6, b7, b8, b9, b10, b11, b12, b13])) (.bool _)
  have b13' : ((m.block.size : Nat) : Int) ≤ 1000 := by omega
  simp (maxSteps := 1000000) (disch := (first | omega | (simp only [nx_alloc, nx_upd, len_cons, len_nil, List.length_set, List.length_map, List.length_append] <;> omega) | fail)) only [go_sem, g1, b13', hbk, ldV, Try.results15]
  exact gc_fin' hw o1 (congrArg Value.bool (by unfold mayM; simp [b0, b1, b2, b3, b4, b5, b6, b7, b8, b9, b10, b11, b12, b13])) (.bool _)
end Go.Fw
