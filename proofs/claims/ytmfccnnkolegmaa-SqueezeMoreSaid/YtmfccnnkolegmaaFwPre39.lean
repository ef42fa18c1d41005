import Derived.Test.YtmfccnnkolegmaaFwPre34
import Derived.Test.YtmfccnnkolegmaaFw40
import Derived.Test.YtmfccnnkolegmaaFwPre23
set_option linter.unusedSimpArgs false
set_option linter.unusedVariables false
set_option maxRecDepth 4000
namespace Go.Fw
open Go.Proofs Go.RowKit
/-! Next: which symbol some bits are. -/
theorem Try.enters66 : Enters Try.prog 66 := enters_of Try.func66 rfl (by kernel_rfl)
theorem Try.enters49 : Enters Try.prog 49 := enters_of Try.func49 rfl (by kernel_rfl)
set_option maxHeartbeats 4000000 in
theorem nth_ok (w0 : World) (A : St) (l : List Int) (v : Value) (k i0 : Nat) (hv : InView A l v) (hl : l.length ≤ 1000) (hk : k ≤ 1000) (hi0 : l[i0]? = some (k : Int)) : ACalls Try.prog w0 66 #[v, .int .i64 k, .int .i64 (mny (l.take i0) k : Nat)] A (fin (.int .i64 i0) A) := by
  refine call_E (l := [v, .int .i64 k, .int .i64 (mny (l.take i0) k : Nat)]) Try.enters66 Try.func66 rfl (Nat.le_of_ble_eq_true rfl) fun hw hbd => ?_
  have hlv : ∀ X, lenU X (some (.slice 3)) v = some (.int .i64 l.length, X) := View.lenX hv
  have hil := (List.getElem?_eq_some_iff.1 hi0).1
  have hm0 := mny_le (l.take i0) k
  have htl0 : (l.take i0).length ≤ i0 := List.length_take_le ..
  simp (maxSteps := 1000000) (disch := first | omega | (simp only [z1, z2, z3, z4, z5, z6, z7] <;> omega) | fail) only [go_sem, Try.ntmps66, Try.results66, hlv]
  refine aw_loop (fun j x A' => ∃ (ρ : Nat → Value) (i : Nat), x = E 25 ρ [] ∧ A' = A ∧ j = i0 - i ∧ i ≤ i0 ∧ ρ 1 = .int .i64 k ∧ ρ 2 = .int .i64 ((mny (l.take i0) k : Int) - (mny (l.take i) k : Int)) ∧ ρ 9 = v ∧ ρ 10 = .int .i64 l.length ∧ ρ 11 = .int .i64 i) i0
    ⟨_, 0, rfl, rfl, rfl, Nat.zero_le _, rfl, by show Value.int .i64 _ = _; rw [show mny (l.take 0) k = 0 from rfl]; simp, rfl, rfl, rfl⟩ ?_
  rintro j x A' ⟨ρ, i, rfl, rfl, hj, hi, r1, r2, r9, r10, r11⟩
  refine aw_of ?_
  have e1 : (i : Int) < (l.length : Int) := by omega
  obtain ⟨n, hx⟩ : ∃ x, l[i]? = some x := ⟨_, List.getElem?_eq_getElem (by omega)⟩
  obtain ⟨pb, po, hb1, hb2, hb3, cells, e', md, hb4, hb5⟩ := View.at1 (P := Try.prog) (e := 3) hv Try.sz3 (i64E_at _ i n hx)
  have htk : l.take (i + 1) = l.take i ++ [n] := by rw [List.take_add_one, hx]; rfl
  have hsn := mny_snoc (l.take i) n k
  rw [← htk] at hsn
  by_cases h1 : n = (k : Int)
  · subst h1
    rw [if_pos rfl] at hsn
    by_cases h2 : i = i0
    · subst h2
      simp (maxSteps := 1000000) (disch := first | omega | (simp only [z1, z2, z3, z4, z5, z6, z7] <;> omega) | fail) only [go_sem, r1, r2, r9, r10, r11, e1, hb3, hb4, hb5, Int.sub_self, Try.results66]
      exact gc_here ⟨rfl, rfl⟩
    · have hlt := mny_take_lt (l := l) (i := i) (j := i0) (k := k) (by omega) hx
      have e2 : ¬ ((mny (l.take i0) k : Int) - (mny (l.take i) k : Int) = 0) := by omega
      simp (maxSteps := 1000000) (disch := first | omega | (simp only [z1, z2, z3, z4, z5, z6, z7] <;> omega) | fail) only [go_sem, r1, r2, r9, r10, r11, e1, hb3, hb4, hb5, e2]
      refine ⟨j - 1, by omega, _, i + 1, rfl, by omega, by omega, ?_, ?_, ?_, ?_, ?_⟩
      · simp (maxSteps := 1000000) (disch := first | omega | (simp only [z1, z2, z3, z4, z5, z6, z7] <;> omega) | fail) only [go_sem, r1]
      · simp (maxSteps := 1000000) (disch := first | omega | (simp only [z1, z2, z3, z4, z5, z6, z7] <;> omega) | fail) only [go_sem]
        rw [hsn]; congr 1; omega
      · simp (maxSteps := 1000000) (disch := first | omega | (simp only [z1, z2, z3, z4, z5, z6, z7] <;> omega) | fail) only [go_sem, r9]
      · simp (maxSteps := 1000000) (disch := first | omega | (simp only [z1, z2, z3, z4, z5, z6, z7] <;> omega) | fail) only [go_sem, r10]
      · simp (maxSteps := 1000000) (disch := first | omega | (simp only [z1, z2, z3, z4, z5, z6, z7] <;> omega) | fail) only [go_sem]
        rfl
  · have h2 : i ≠ i0 := by
      rintro rfl
      rw [hx] at hi0; injection hi0 with hi0; exact h1 hi0
    rw [if_neg h1] at hsn
    simp (maxSteps := 1000000) (disch := first | omega | (simp only [z1, z2, z3, z4, z5, z6, z7] <;> omega) | fail) only [go_sem, r1, r2, r9, r10, r11, e1, hb3, hb4, hb5, h1]
    refine ⟨j - 1, by omega, _, i + 1, rfl, by omega, by omega, ?_, ?_, ?_, ?_, ?_⟩
    · simp (maxSteps := 1000000) (disch := first | omega | (simp only [z1, z2, z3, z4, z5, z6, z7] <;> omega) | fail) only [go_sem, r1]
    · simp (maxSteps := 1000000) (disch := first | omega | (simp only [z1, z2, z3, z4, z5, z6, z7] <;> omega) | fail) only [go_sem, r2]
      rw [hsn]; rfl
    · simp (maxSteps := 1000000) (disch := first | omega | (simp only [z1, z2, z3, z4, z5, z6, z7] <;> omega) | fail) only [go_sem, r9]
    · simp (maxSteps := 1000000) (disch := first | omega | (simp only [z1, z2, z3, z4, z5, z6, z7] <;> omega) | fail) only [go_sem, r10]
    · simp (maxSteps := 1000000) (disch := first | omega | (simp only [z1, z2, z3, z4, z5, z6, z7] <;> omega) | fail) only [go_sem]
      rfl
/-- A bit of a text. -/
def sbit (s : ByteArray) (p : Nat) : Nat := strV s / 2 ^ p % 2
theorem sbit_lt (s : ByteArray) (p : Nat) : sbit s p < 2 := Nat.mod_lt _ (by decide)
theorem take_one {s : ByteArray} {p : Nat} : takeS s p 1 = if 8 * s.size ≤ p then (0, 40, p) else (((sbit s p : Nat) : Int), 0, p + 1) := by
  split
  · exact takeS_short (w := 1) (by decide) (by omega)
  · rw [show (1 : Int) = ((1 : Nat) : Int) from rfl, takeS_fine (w := 1) (by decide) (by omega), Nat.pow_one]; rfl
structure RdAt (A : St) (r t : Nat) (s : ByteArray) (p : Nat) (A' : St) : Prop where
  next : A.next ≤ A'.next
  rd : A'.get r = some (rdB t s p)
  old : ∀ b, b < A.next → b ≠ r → A'.get b = A.get b
theorem RdAt.over {A A' : St} {r t p : Nat} {s : ByteArray} (h : RdAt A r t s p A') : Over (A.upd r (some (rdB t s p))) A' := over_upd h.next h.rd h.old
theorem RdAt.set {A A' : St} {r t p : Nat} {s : ByteArray} (h : RdAt A r t s p A') (q : Nat) : RdAt A r t s q (A'.upd r (some (rdB t s q))) :=
  ⟨h.next, get_upd_same .., fun b hb hne => by rw [get_upd_old hne]; exact h.old b hb hne⟩
theorem RdAt.bnd (n : Nat) (s : ByteArray) (p : Nat) : ∀ v ∈ ([.string s, .int .i64 (p : Nat)] : List Value), Bnd n v := by
  intro v hv
  rcases List.mem_cons.1 hv with rfl | hv
  · exact .string _
  · rw [List.mem_singleton.1 hv]; exact .int _ _
def nextV (x : Int × Int × Nat) : Value := .tuple #[.int .i64 x.1, .int .i64 x.2.1]
theorem bnd_nextV (n : Nat) (x : Int × Int × Nat) : Bnd n (nextV x) := by simp only [nextV, bnd_tuple, bndL_cons, bndL_nil, bnd_int, and_self]
theorem view_rd {A A' : St} {r t p : Nat} {s : ByteArray} {l : List Int} {v : Value} (h : RdAt A r t s p A') (hv : InView A l v) (hr : rowB v ≠ some r) : InView A' l v := View.keep hv h.next fun b hb hlt => h.old b hlt (fun e => hr (by rw [hb, e]))
set_option maxHeartbeats 8000000 in
theorem next_ok (w0 : World) (A : St) (l : List Int) (v : Value) (r : Nat) (s : ByteArray) (p : Nat) (hv : InView A l v) (hl : l.length ≤ 1000) (hr : A.get r = some (rdB 97 s p)) (hvr : rowB v ≠ some r) (hs : s.size ≤ 140737488355328) (hp : p ≤ 8 * s.size) :
    ACalls Try.prog w0 49 #[.pointer (some ⟨r, 0, none⟩), v] A (fin (nextV (nextP l (sbit s) (8 * s.size) p)) (A.upd r (some (rdB 97 s (nextP l (sbit s) (8 * s.size) p).2.2)))) := by
  refine call_E (l := [.pointer (some ⟨r, 0, none⟩), v]) Try.enters49 Try.func49 rfl (Nat.le_of_ble_eq_true rfl) fun hw hbd => ?_
  have hrn : r < A.next := (hw r _ hr).1
  have hfin : ∀ {x : Int × Int × Nat} {A' : St}, nextP l (sbit s) (8 * s.size) p = x → RdAt A r 97 s x.2.2 A' → GcE A (fin (nextV (nextP l (sbit s) (8 * s.size) p)) (A.upd r (some (rdB 97 s (nextP l (sbit s) (8 * s.size) p).2.2)))) (.returned (nextV x)) A' := by
    rintro x A' rfl h
    exact gc_upd hw hrn (RdAt.bnd _ _ _) h.over rfl (bnd_nextV _ _)
  simp (maxSteps := 1000000) (disch := first | omega | (simp only [z1, z2, z3, z4, z5, z6, z7] <;> omega) | fail) only [go_sem, Try.ntmps49, Try.results49]
  refine aw_scope (aw_of ?_)
  simp (maxSteps := 1000000) (disch := first | omega | (simp only [z1, z2, z3, z4, z5, z6, z7] <;> omega) | fail) only [go_sem]
  refine (counts_ok w0 A l v hv hl).mono ?_
  rintro e A1 ⟨f, rfl, rfl, hf⟩
  have hLf := numC_len .i64 16 f
  have hpf := numC_plain .i64 16 f
  have rd0 : RdAt A1 r 97 s p A1 := ⟨Nat.le_refl _, hr, fun _ _ _ => rfl⟩
  have rdal : ∀ {B : St} {q : Nat} (X : Blk), RdAt A1 r 97 s q B → RdAt A1 r 97 s q (B.alloc X) := fun X h => ⟨by have := h.next; rw [nx_alloc]; omega, by rw [get_alloc_old (by have := h.next; omega)]; exact h.rd, fun b hb hne => by rw [get_alloc_old (by have := h.next; omega)]; exact h.old b hb hne⟩
  have rdup : ∀ {B : St} {q c : Nat} (X : Option Blk), A1.next ≤ c → RdAt A1 r 97 s q B → RdAt A1 r 97 s q (B.upd c X) := fun X hc h => ⟨h.next, by rw [get_upd_old (by omega)]; exact h.rd, fun b hb hne => by rw [get_upd_old (by omega)]; exact h.old b hb hne⟩
  rcases hc : isCode l with _ | _
  · simp (maxSteps := 1000000) (disch := first | omega | (simp only [z1, z2, z3, z4, z5, z6, z7] <;> omega) | fail) only [go_sem, hpf, hc, scopeQ_ret, Try.results49]
    exact hfin (x := (0, 70, p)) (by unfold nextP; rw [hc]; rfl) (rdup _ (Nat.le_refl _) (rdal _ rd0))
  obtain rfl := hf hc
  obtain ⟨hk, hl3, h15⟩ := isCode_kr hc
  have hP : nextP l (sbit s) (8 * s.size) p = nextG l (sbit s) (8 * s.size) 15 0 0 p := if_pos hc
  have hT : (numC .i64 16 (mny l)).take 16 = numC .i64 16 (mny l) := List.take_of_length_le (by omega)
  have hz0 : setList [Value.int .i64 0, .int .i64 0, .int .i64 0, .int .i64 0, .int .i64 0, .int .i64 0, .int .i64 0, .int .i64 0, .int .i64 0, .int .i64 0, .int .i64 0, .int .i64 0, .int .i64 0, .int .i64 0, .int .i64 0, .int .i64 0] 0 (numC .i64 16 (mny l)) = numC .i64 16 (mny l) := setList_all (by rw [hLf]; rfl)
  simp (maxSteps := 1000000) (disch := first | omega | (simp only [z1, z2, z3, z4, z5, z6, z7] <;> omega) | fail) only [go_sem, hpf, hc, hz0, hT]
  refine call1 (first_ok w0 _ l hk) ?_
  have hLb := numC_len .u32 17 (bs l)
  have hpb := numC_plain .u32 17 (bs l)
  have hz1 : setList [Value.int .u32 0, .int .u32 0, .int .u32 0, .int .u32 0, .int .u32 0, .int .u32 0, .int .u32 0, .int .u32 0, .int .u32 0, .int .u32 0, .int .u32 0, .int .u32 0, .int .u32 0, .int .u32 0, .int .u32 0, .int .u32 0, .int .u32 0] 0 (numC .u32 17 (bs l)) = numC .u32 17 (bs l) := setList_all (by rw [hLb]; rfl)
  simp (maxSteps := 1000000) (disch := first | omega | (simp only [z1, z2, z3, z4, z5, z6, z7] <;> omega) | fail) only [go_sem, hpb, hz1]
  refine aw_loop (fun j x B => ∃ (ρ : Nat → Value) (i : Nat), x = E 77 ρ [] ∧ RdAt A1 r 97 s p B ∧ A1.next + 2 ≤ B.next ∧ B.get A1.next = some (.cells (numC .i64 16 (mny l)) 78 (some 0)) ∧ B.get (A1.next + 1) = some (.cells (numC .u32 17 (bs l)) 81 (some 0)) ∧ j = 15 - i ∧ i ≤ 15 ∧ ρ 0 = .pointer (some ⟨r, 0, none⟩) ∧ ρ 1 = v ∧ ρ 6 = .pointer (some ⟨A1.next, 0, none⟩) ∧ ρ 8 = .pointer (some ⟨A1.next + 1, 0, none⟩) ∧ ρ 9 = .int .u32 0 ∧ ρ 10 = .int .i64 ((lng l 0 : Int) - (lng l i : Int)) ∧ ρ 26 = .slice (some ⟨A1.next, 1, none⟩) 15 15 ∧ ρ 27 = .int .i64 15 ∧ ρ 28 = .int .i64 i) 15
    ⟨_, 0, rfl, ?_, ?_, ?_, ?_, rfl, Nat.zero_le _, rfl, rfl, rfl, rfl, rfl, by show Value.int .i64 0 = _; rw [Int.sub_self], rfl, rfl, rfl⟩ ?_
  · exact rdup _ (by omega) (rdal _ (rdup _ (Nat.le_refl _) (rdal _ rd0)))
  · simp only [nx_upd, nx_alloc]; omega
  · simp (disch := first | omega | (simp only [z1, z2, z3, z4, z5, z6, z7] <;> omega) | fail) only [St.get_upd, St.get_alloc, St.next_alloc, St.next_upd, ↓reduceIte, natF_lt, natF_gt, natF_ne, Nat.add_assoc, Nat.reduceAdd, Nat.reduceEqDiff, Nat.add_left_cancel_iff]
  · simp (disch := first | omega | (simp only [z1, z2, z3, z4, z5, z6, z7] <;> omega) | fail) only [St.get_upd, St.get_alloc, St.next_alloc, St.next_upd, ↓reduceIte, natF_lt, natF_gt, natF_ne, Nat.add_assoc, Nat.reduceAdd, Nat.reduceEqDiff, Nat.add_left_cancel_iff]
  rintro j x B ⟨ρ, i, rfl, rdB', hnx, gM, gW, hj, hi, r0, r1, r6, r8, r9, r10, r26, r27, r28⟩
  refine aw_of ?_
  have hlg0 := lng_le l 0
  have hlgi := lng_le l i
  by_cases hend : i < 15
  · have e1 : (i : Int) < 15 := by omega
    have hat := numC_at .i64 (n := 16) (j := 1 + i) (mny l) (by omega)
    have hst := lng_step l i
    have hmm := mny_le l (i + 1)
    rw [show 1 + i = i + 1 by omega] at hat
    have hcm : 1 + i = i + 1 := by omega
    simp (maxSteps := 1000000) (disch := first | omega | (simp only [z1, z2, z3, z4, z5, z6, z7] <;> omega) | fail) only [go_sem, r0, r1, r6, r8, r9, r10, r26, r27, r28, e1, gM, hat, hcm]
    refine ⟨j - 1, by omega, _, i + 1, rfl, rdB', hnx, gW, by omega, by omega, ?_, ?_, ?_, ?_, ?_, ?_, ?_, ?_, ?_⟩
    · simp (maxSteps := 1000000) (disch := first | omega | (simp only [z1, z2, z3, z4, z5, z6, z7] <;> omega) | fail) only [go_sem, r0]
    · simp (maxSteps := 1000000) (disch := first | omega | (simp only [z1, z2, z3, z4, z5, z6, z7] <;> omega) | fail) only [go_sem, r1]
    · simp (maxSteps := 1000000) (disch := first | omega | (simp only [z1, z2, z3, z4, z5, z6, z7] <;> omega) | fail) only [go_sem, r6]
    · simp (maxSteps := 1000000) (disch := first | omega | (simp only [z1, z2, z3, z4, z5, z6, z7] <;> omega) | fail) only [go_sem, r8]
    · simp (maxSteps := 1000000) (disch := first | omega | (simp only [z1, z2, z3, z4, z5, z6, z7] <;> omega) | fail) only [go_sem, r9]
    · simp (maxSteps := 1000000) (disch := first | omega | (simp only [z1, z2, z3, z4, z5, z6, z7] <;> omega) | fail) only [go_sem]
      congr 1; omega
    · simp (maxSteps := 1000000) (disch := first | omega | (simp only [z1, z2, z3, z4, z5, z6, z7] <;> omega) | fail) only [go_sem, r26]
    · simp (maxSteps := 1000000) (disch := first | omega | (simp only [z1, z2, z3, z4, z5, z6, z7] <;> omega) | fail) only [go_sem, r27]
    · simp (maxSteps := 1000000) (disch := first | omega | (simp only [z1, z2, z3, z4, z5, z6, z7] <;> omega) | fail) only [go_sem]
      rfl
  have e1 : ¬ ((i : Int) < 15) := by omega
  have hi15 : i = 15 := by omega
  rw [hi15, lng_15 h15] at r10
  simp (maxSteps := 1000000) (disch := first | omega | (simp only [z1, z2, z3, z4, z5, z6, z7] <;> omega) | fail) only [go_sem, r0, r1, r6, r8, r9, r10, r26, r27, r28, e1]
  refine aw_loop (fun j x C => ∃ (ρ : Nat → Value) (k w q : Nat), x = E 77 ρ [] ∧ RdAt A1 r 97 s q C ∧ A1.next + 2 ≤ C.next ∧ C.get A1.next = some (.cells (numC .i64 16 (mny l)) 78 (some 0)) ∧ C.get (A1.next + 1) = some (.cells (numC .u32 17 (bs l)) 81 (some 0)) ∧ j = 15 - k ∧ k ≤ 15 ∧ q ≤ 8 * s.size ∧ NI l k w ∧ nextP l (sbit s) (8 * s.size) p = nextG l (sbit s) (8 * s.size) (15 - k) k w q ∧ ρ 0 = .pointer (some ⟨r, 0, none⟩) ∧ ρ 1 = v ∧ ρ 6 = .pointer (some ⟨A1.next, 0, none⟩) ∧ ρ 8 = .pointer (some ⟨A1.next + 1, 0, none⟩) ∧ ρ 9 = .int .u32 (w : Nat) ∧ ρ 10 = .int .i64 (lng l k : Nat) ∧ ρ 13 = .int .i64 ((k + 1 : Nat) : Int)) 15
    ⟨_, 0, 0, p, rfl, rdB', hnx, gM, gW, rfl, Nat.zero_le _, hp, NI.zero l, hP, by first | rfl | exact r0, by first | rfl | exact r1, by first | rfl | exact r6, by first | rfl | exact r8, by first | rfl | exact r9, ?_, rfl⟩ ?_
  · simp (maxSteps := 1000000) (disch := first | omega | (simp only [z1, z2, z3, z4, z5, z6, z7] <;> omega) | fail) only [go_sem, r10]
    congr 1
  clear r0 r1 r6 r8 r9 r10 r26 r27 r28 rdB' hnx gM gW hj e1 hend
  rintro j x C ⟨ρ, k, w, q, rfl, rdC, hnx, gM, gW, hj, hk15, hq, hNI, hres, r0, r1, r6, r8, r9, r10, r13⟩
  refine aw_of ?_
  by_cases hend : k = 15
  · have e1 : ¬ ((k + 1 : Nat) : Int) ≤ 15 := by omega
    simp (maxSteps := 1000000) (disch := first | omega | (simp only [z1, z2, z3, z4, z5, z6, z7] <;> omega) | fail) only [go_sem, r0, r1, r6, r8, r9, r10, r13, e1, scopeQ_ret, Try.results49]
    exact hfin (x := (0, 70, q)) (by rw [hres, hend]; rfl) rdC
  have e1 : ((k + 1 : Nat) : Int) ≤ 15 := by omega
  obtain ⟨fu, hfu⟩ : ∃ fu, 15 - k = fu + 1 := ⟨14 - k, by omega⟩
  rw [hfu, nextG] at hres
  have hlt := hNI.lt
  have h2k : 2 ^ k ≤ 2 ^ 14 := Nat.pow_le_pow_right (by decide) (by omega)
  have h214 : (2 : Nat) ^ 14 = 16384 := rfl
  simp (maxSteps := 1000000) (disch := first | omega | (simp only [z1, z2, z3, z4, z5, z6, z7] <;> omega) | fail) only [go_sem, r0, r1, r6, r8, r9, r10, r13, e1]
  refine call1 (take_ok w0 C r s q 1 rdC.rd hs hq) ?_
  rw [take_one]
  by_cases hsh : 8 * s.size ≤ q
  · rw [if_pos hsh] at hres ⊢
    simp (maxSteps := 1000000) (disch := first | omega | (simp only [z1, z2, z3, z4, z5, z6, z7] <;> omega) | fail) only [go_sem, scopeQ_ret, Try.results49]
    exact hfin (x := (0, 40, q)) hres (rdC.set q)
  rw [if_neg hsh] at hres ⊢
  have hb2 := sbit_lt s q
  generalize sbit s q = b at *
  have hor := u32_or1 (n := w) (b := b) (by omega) hb2
  have rdD := rdC.set (q + 1)
  have gM2 : (C.upd r (some (rdB 97 s (q + 1)))).get A1.next = some (.cells (numC .i64 16 (mny l)) 78 (some 0)) := by rw [get_upd_old (by omega)]; exact gM
  have gW2 : (C.upd r (some (rdB 97 s (q + 1)))).get (A1.next + 1) = some (.cells (numC .u32 17 (bs l)) 81 (some 0)) := by rw [get_upd_old (by omega)]; exact gW
  have hnx2 : A1.next + 2 ≤ (C.upd r (some (rdB 97 s (q + 1)))).next := hnx
  generalize C.upd r (some (rdB 97 s (q + 1))) = D at *
  have hatM := numC_at .i64 (n := 16) (j := k + 1) (mny l) (by omega)
  have hatW := numC_at .u32 (n := 17) (j := k + 1) (bs l) (by omega)
  have e16 : ((k + 1 : Nat) : Int) < 16 := by omega
  have e17 : ((k + 1 : Nat) : Int) < 17 := by omega
  have hst := lng_step l k
  have hlgk := lng_le l k
  have hbl := bs_le hk (k := k + 1) (by omega) (by omega)
  have h2k1 : 2 ^ (k + 1) ≤ 2 ^ 15 := Nat.pow_le_pow_right (by decide) (by omega)
  have h215 : (2 : Nat) ^ 15 = 32768 := rfl
  have hbit := hNI.bit hb2
  have hw1 : IntKind.i64.wrap ((lng l k : Int) - (mny l (k + 1) : Int)) = (lng l (k + 1) : Int) := by
    rw [wrap_small (by omega) (by omega)]; omega
  have hw2 : IntKind.i64.wrap ((2 * w + b : Nat) : Int) = ((2 * w + b : Nat) : Int) := wrap_small (by omega) (by omega)
  have hw3 : IntKind.i64.wrap ((bs l (k + 1) : Nat) : Int) = ((bs l (k + 1) : Nat) : Int) := wrap_small (by omega) (by omega)
  have hw4 : IntKind.i64.wrap (((2 * w + b : Nat) : Int) - ((bs l (k + 1) : Nat) : Int)) = ((2 * w + b - bs l (k + 1) : Nat) : Int) := by
    rw [wrap_small (by omega) (by omega)]; omega
  by_cases hhit : 2 * w + b < bs l (k + 1) + mny l (k + 1)
  · rw [if_pos hhit] at hres
    have e2 : ((2 * w + b - bs l (k + 1) : Nat) : Int) < ((mny l (k + 1) : Nat) : Int) := by omega
    obtain ⟨hn1, hn2⟩ := nthP_spec (l := l) (k := k + 1) (n := 2 * w + b - bs l (k + 1)) (by omega)
    have hnt := nth_ok w0 D l v (k + 1) _ (view_rd rdD hv hvr) hl (by omega) hn1
    rw [hn2] at hnt
    simp (maxSteps := 1000000) (disch := first | omega | (simp only [z1, z2, z3, z4, z5, z6, z7] <;> omega) | fail) only [go_sem, r1, r6, r8, r9, r10, r13, hor, e16, e17, gM2, gW2, hatM, hatW, hw1, hw2, hw3, hw4, e2]
    refine call1 hnt ?_
    simp (maxSteps := 1000000) (disch := first | omega | (simp only [z1, z2, z3, z4, z5, z6, z7] <;> omega) | fail) only [go_sem, scopeQ_ret, Try.results49]
    exact hfin (x := ((nthP l (k + 1) (2 * w + b - bs l (k + 1)) : Nat), 0, q + 1)) hres rdD
  rw [if_neg hhit] at hres
  have e2 : ¬ ((2 * w + b - bs l (k + 1) : Nat) : Int) < ((mny l (k + 1) : Nat) : Int) := by omega
  by_cases hlong : lng l (k + 1) = 0
  · rw [if_pos hlong] at hres
    have e3 : ((lng l (k + 1) : Nat) : Int) = 0 := by omega
    simp (maxSteps := 1000000) (disch := first | omega | (simp only [z1, z2, z3, z4, z5, z6, z7] <;> omega) | fail) only [go_sem, r1, r6, r8, r9, r10, r13, hor, e16, e17, gM2, gW2, hatM, hatW, hw1, hw2, hw3, hw4, e2, e3, scopeQ_ret, Try.results49]
    exact hfin (x := (0, 70, q + 1)) hres rdD
  rw [if_neg hlong] at hres
  have e3 : ¬ ((lng l (k + 1) : Nat) : Int) = 0 := by omega
  simp (maxSteps := 1000000) (disch := first | omega | (simp only [z1, z2, z3, z4, z5, z6, z7] <;> omega) | fail) only [go_sem, r1, r6, r8, r9, r10, r13, hor, e16, e17, gM2, gW2, hatM, hatW, hw1, hw2, hw3, hw4, e2, e3]
  refine ⟨j - 1, by omega, _, k + 1, 2 * w + b, q + 1, rfl, rdD, hnx2, by omega, by omega, by omega, hNI.step hb2 hhit, by rw [hres]; congr 1; omega, ?_, ?_, ?_, ?_, ?_, ?_, ?_⟩
  · simp (maxSteps := 1000000) (disch := first | omega | (simp only [z1, z2, z3, z4, z5, z6, z7] <;> omega) | fail) only [go_sem, r0]
  · simp (maxSteps := 1000000) (disch := first | omega | (simp only [z1, z2, z3, z4, z5, z6, z7] <;> omega) | fail) only [go_sem, r1]
  · simp (maxSteps := 1000000) (disch := first | omega | (simp only [z1, z2, z3, z4, z5, z6, z7] <;> omega) | fail) only [go_sem, r6]
  · simp (maxSteps := 1000000) (disch := first | omega | (simp only [z1, z2, z3, z4, z5, z6, z7] <;> omega) | fail) only [go_sem, r8]
  · simp (maxSteps := 1000000) (disch := first | omega | (simp only [z1, z2, z3, z4, z5, z6, z7] <;> omega) | fail) only [go_sem, r9]
  · simp (maxSteps := 1000000) (disch := first | omega | (simp only [z1, z2, z3, z4, z5, z6, z7] <;> omega) | fail) only [go_sem, r10]
  · simp (maxSteps := 1000000) (disch := first | omega | (simp only [z1, z2, z3, z4, z5, z6, z7] <;> omega) | fail) only [go_sem]
    rfl
end Go.Fw

set_option linter.unusedSimpArgs false
set_option linter.unusedVariables false
set_option maxRecDepth 4000
namespace Go.Fw
open Go.Proofs Go.RowKit
/-! Lengths that are given make a code: plain. -/
theorem lng_same : ∀ {g l : List Int}, g.length = l.length → (∀ (s : Nat) (x y : Int), g[s]? = some x → l[s]? = some y → (0 < x ↔ 0 < y)) → lng g 0 = lng l 0
  | [], [], _, _ => rfl
  | [], y :: l, h, _ => by simp at h
  | x :: g, [], h, _ => by simp at h
  | x :: g, y :: l, h, hp => by
    have ih := lng_same (g := g) (l := l) (by simpa using h) (fun s a b ha hb => hp (s + 1) a b (by simpa using ha) (by simpa using hb))
    have h0 := hp 0 x y rfl rfl
    unfold lng at *
    rw [List.countP_cons, List.countP_cons, ih]
    congr 1
    by_cases h1 : 0 < x
    · rw [if_pos (by simpa using h1), if_pos (by simpa using h0.1 h1)]
    · rw [if_neg (by simpa using h1), if_neg (by simpa using fun h => h1 (h0.2 h))]
theorem usedN_lng (l : List Int) : usedN l = lng l 0 := by
  have : ∀ n, usedN (l.take n) = lng (l.take n) 0 := by
    intro n
    induction n with
    | zero => rfl
    | succ n ih =>
      by_cases h : n < l.length
      · rw [List.take_add_one, List.getElem?_eq_getElem h]
        show usedN (l.take n ++ [l[n]]) = lng (l.take n ++ [l[n]]) 0
        rw [usedN_snoc, lng_snoc, ih]; rfl
      · rw [List.take_of_length_le (by omega)]
        rw [List.take_of_length_le (by omega)] at ih
        exact ih
  have h := this l.length
  rwa [List.take_length] at h
theorem lenF_code {f : List Int} {lim : Nat} (h1 : 1 ≤ lim) (h15 : lim ≤ 15) (h : HOk 20 f lim) (hn : f.length ≤ 300) (hu : usedN f ≠ 0) : isCode (lenF 20 f lim) = true := by
  obtain ⟨ho, hkr, hp⟩ := lenF_like h1 h15 h
  have hlen := lenF_len 20 f ((lim : Nat) : Int)
  have hall : ∀ x ∈ lenF 20 f lim, 0 ≤ x ∧ x ≤ 15 := fun x hx => by
    obtain ⟨s, hs⟩ := List.mem_iff_getElem?.1 hx
    have hsl := (List.getElem?_eq_some_iff.1 hs).1
    have h2 := hp s x _ hs (List.getElem?_eq_getElem (by omega))
    unfold okL at ho
    rw [List.all_eq_true] at ho
    have h3 := ho x hx
    simp only [decide_eq_true_eq] at h3
    omega
  have hlng : lng (lenF 20 f lim) 0 = usedN f := by
    rw [usedN_lng]
    refine lng_same hlen fun s x y hx hy => ?_
    have h2 := hp s x y hx hy
    have h3 := h.nn y (List.mem_of_getElem? hy)
    omega
  rw [code_eq2 hall, hlen, hkr, hlng, decide_eq_true hn, Bool.true_and]
  by_cases h2 : usedN f = 1
  · rw [if_neg hu, if_pos h2, decide_eq_true h2]; rfl
  · rw [if_neg hu, if_neg h2]; rfl
end Go.Fw

set_option linter.unusedSimpArgs false
set_option linter.unusedVariables false
set_option maxRecDepth 4000
namespace Go.Fw
open Go.Proofs Go.RowKit
theorem nextP_le (l : List Int) (bit : Nat → Nat) (size p : Nat) (h : p ≤ size) : p ≤ (nextP l bit size p).2.2 ∧ (nextP l bit size p).2.2 ≤ size := by
  unfold nextP
  split
  · exact nextG_le l bit size 15 0 0 p h
  · exact ⟨Nat.le_refl _, h⟩
end Go.Fw

set_option linter.unusedSimpArgs false
set_option linter.unusedVariables false
set_option maxRecDepth 4000
namespace Go.Fw
open Go.Proofs Go.RowKit
/-! What was packed by a code is read by it: plain. -/
theorem nextG_reads {l : List Int} (hc : isCode l = true) {bit : Nat → Nat} {size p t k w : Nat} (ht : l[t]? = some (k : Int)) (hk1 : 1 ≤ k) (hw : w = wrd l t k) (hbit : ∀ j, j < k → bit (p + j) = w / 2 ^ (k - 1 - j) % 2) (hsz : p + k ≤ size) :
    ∀ (f k' : Nat), k' < k → k ≤ k' + f → nextG l bit size f k' (w / 2 ^ (k - k')) (p + k') = (((t : Nat) : Int), 0, p + k)
  | 0, k', h1, h2 => by omega
  | f + 1, k', h1, h2 => by
    obtain ⟨hkr, _, h15⟩ := isCode_kr hc
    have hk15 := (h15 _ (List.mem_of_getElem? ht)).2
    have hmt := mny_at_lt ht
    have hpow : 2 ^ (k - k') = 2 ^ (k - 1 - k') * 2 := by rw [← Nat.pow_succ]; congr 1; omega
    have hstep : 2 * (w / 2 ^ (k - k')) + bit (p + k') = w / 2 ^ (k - 1 - k') := by
      rw [hbit k' h1, hpow, ← Nat.div_div_eq_div_mul]
      omega
    rw [nextG, if_neg (by omega), hstep]
    by_cases hlast : k' + 1 = k
    · have e : w / 2 ^ (k - 1 - k') = w := by rw [show k - 1 - k' = 0 by omega]; simp
      rw [e, hlast]
      have hwe : w = bs l k + mny (l.take t) k := hw
      rw [if_pos (by omega)]
      obtain ⟨h3, h4⟩ := nthP_spec (l := l) (k := k) (n := w - bs l k) (by omega)
      have := nth_one h3 ht (by omega)
      rw [this]
      congr 2
      omega
    · have hfar := bs_far (l := l) (k := k' + 1) (k' := k) (by omega) (by omega) (by omega)
      have hwe : w = bs l k + mny (l.take t) k := hw
      have hge := (Nat.le_div_iff_mul_le (Nat.pow_pos (by decide : 0 < 2))).2 (show (bs l (k' + 1) + mny l (k' + 1)) * 2 ^ (k - (k' + 1)) ≤ w by omega)
      rw [show k - (k' + 1) = k - 1 - k' by omega] at hge
      rw [if_neg (by omega), if_neg (lng_of ht (by omega))]
      have ih := nextG_reads hc ht hk1 hw hbit hsz f (k' + 1) (by omega) (by omega)
      rw [show k - (k' + 1) = k - 1 - k' by omega] at ih
      exact ih
theorem pcb_push {A : St} {lo : Nat} {l : List (Int × Int)} {v : Value} (h : Row A 51 2 lo (l.flatMap pcE) l.length v) (x : Int × Int) (hlo : lo ≤ A.next) (hl : l.length ≤ 1000000) :
    ∃ v' A2, aappend Try.prog (A.alloc (.cells (pcE x) 51 (some 0))) 46 46 v (.slice (some ⟨A.next, 0, none⟩) 1 1) = some (v', A2) ∧ Row A2 51 2 lo ((l ++ [x]).flatMap pcE) (l ++ [x]).length v' ∧ A2.next = A.next + 2 ∧ rowB v' = some (A.next + 1) ∧ ∀ b, b < A.next → rowB v ≠ some b → A2.get b = A.get b := by
  obtain ⟨v', A2, h1, h2, h3, h4, h5⟩ := row_push (A := A) (sp := none) (c := 1) (xs := pcE x) Try.el46 Try.underlying46 (by intro k; exact TypeDesc.noConfusion) Try.sz51 Try.byt51 Try.zero51 rfl h hlo (by omega) (by omega) rfl rfl
  exact ⟨v', A2, h1, by rw [List.flatMap_append, List.length_append, List.flatMap_singleton]; exact h2, h3, h4, h5⟩
end Go.Fw
