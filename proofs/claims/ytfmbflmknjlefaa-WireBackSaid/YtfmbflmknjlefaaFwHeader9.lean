import Derived.Test.YtfmbflmknjlefaaFwHeader8
set_option linter.unusedSimpArgs false
set_option linter.unusedVariables false
set_option maxRecDepth 4000
namespace Go.Fw
open Go.Proofs Go.RowKit
theorem Try.enters81 : Enters Try.prog 81 := enters_of Try.func81 rfl (by kernel_rfl)
def hashN : Nat → RS → List HashT → List HashT × RS
  | 0, s, acc => (acc, s)
  | k + 1, s, acc => hashN k (hashS s).2 (acc ++ [(hashS s).1])
def pairN : Nat → RS → List ByteArray → List Int → (List ByteArray × List Int) × RS
  | 0, s, a, b => ((a, b), s)
  | k + 1, s, a, b => pairN k (manyS 300 (textS s).2).2 (a ++ [strOfNums (textS s).1]) (b ++ [(manyS 300 (textS s).2).1])
def V0 : VerT := ⟨0, [], [], []⟩
/-- What is read, as the reader does it. -/
def readI (r : List Int) : Int × RS := idS (r, 0)
def readN (r : List Int) : Int × RS := manyS 16 (readI r).2
def readB (r : List Int) : List HashT × RS := hashN (readN r).1.toNat (readN r).2 []
def readK (r : List Int) : Int × RS := manyS 12 (readB r).2
def readP (r : List Int) : (List ByteArray × List Int) × RS := pairN (readK r).1.toNat (readK r).2 [] []
def readVer (r : List Int) : VerT := ⟨(readI r).1, (readB r).1, (readP r).1.1, (readP r).1.2⟩
def progR (r : List Int) : VerT × List Int × Int :=
  if (readP r).2.2 ≠ 0 then (V0, [], (readP r).2.2) else if mayB (readVer r) then (readVer r, (readP r).2.1, 0) else (V0, [], 1)
/-- A state's bytes are bytes, no more than those at first. -/
def RSok (n : Nat) (s : RS) : Prop := (∀ x ∈ s.1, Byte x) ∧ s.1.length ≤ n
theorem manyS_ok {n : Nat} {s : RS} (most : Int) (h0 : 0 ≤ most) (h : RSok n s) : RSok n (manyS most s).2 ∧ 0 ≤ (manyS most s).1 ∧ (manyS most s).1 ≤ most := by
  obtain ⟨h1, h2⟩ := h
  rcases hg : getL 10 0 0 s.1 with ⟨m, t, e⟩
  obtain ⟨g1, g2, g3, g4, _⟩ := getL_facts _ h1 m t e hg
  unfold manyS
  rw [hg]
  simp only
  split
  · exact ⟨⟨h1, h2⟩, Int.le_refl _, h0⟩
  · split
    · exact ⟨⟨g3, by simp only; omega⟩, Int.le_refl _, h0⟩
    · rename_i hb
      refine ⟨⟨g3, by simp only; omega⟩, ?_, ?_⟩
      · show 0 ≤ (if e = 0 then m else 0); split <;> omega
      · show (if e = 0 then m else 0) ≤ _; split <;> omega
theorem readL_ok {s : List Int} (h : ∀ x ∈ s, Byte x) : (∀ x ∈ (readL s).2.1, Byte x) ∧ (readL s).2.1.length ≤ s.length ∧ (∀ x ∈ (readL s).1, Byte x) ∧ (readL s).1.length ≤ s.length := by
  rcases hg : getL 10 0 0 s with ⟨m, t, e⟩
  obtain ⟨g1, g2, g3, g4, _⟩ := getL_facts _ h m t e hg
  unfold readL
  rw [hg]
  simp only
  split
  · exact ⟨fun x hx => (by cases hx), by simp, fun x hx => (by cases hx), by simp⟩
  · split
    · exact ⟨fun x hx => (by cases hx), by simp, fun x hx => (by cases hx), by simp⟩
    · exact ⟨fun x hx => g3 x (List.mem_of_mem_drop hx), by simp only [List.length_drop]; omega, fun x hx => g3 x (List.mem_of_mem_take hx), by simp only [List.length_take]; omega⟩
theorem textS_ok {n : Nat} {s : RS} (h : RSok n s) : RSok n (textS s).2 := by
  obtain ⟨h1, h2⟩ := h
  obtain ⟨g1, g2, _⟩ := readL_ok h1
  unfold textS
  split
  · exact ⟨h1, h2⟩
  · exact ⟨g1, by simp only; omega⟩
theorem hashS_ok {n : Nat} {s : RS} (h : RSok n s) : RSok n (hashS s).2 := by
  obtain ⟨h1, h2⟩ := h
  unfold hashS
  split
  · exact ⟨h1, h2⟩
  · split
    · exact ⟨fun x hx => h1 x (List.mem_of_mem_drop hx), by simp only [List.length_drop]; omega⟩
    · exact ⟨h1, h2⟩
theorem idS_ok {r : List Int} (h : ∀ x ∈ r, Byte x) : RSok r.length (idS (r, 0)).2 ∧ 0 ≤ (idS (r, 0)).1 ∧ (idS (r, 0)).1 < 4294967296 := by
  unfold idS fixL
  rw [if_neg (by omega)]
  split
  · exact ⟨⟨fun x hx => (by cases hx), by simp⟩, by simp, by simp⟩
  · rename_i hl
    have hlt := beN_lt 4 (r.take 4) (by rw [List.length_take]; simp only at hl; omega) (fun x hx => h x (List.mem_of_mem_take hx))
    refine ⟨⟨fun x hx => h x (List.mem_of_mem_drop hx), by simp⟩, hlt.1, ?_⟩
    exact hlt.2
/-- A version whose rows are nobody else's. -/
def VerRow (A : St) (lo : Nat) (V : VerT) (v : Value) : Prop := ∃ p q u, v = .agg #[.int .u32 V.id, p, q, u] ∧ HsRow A lo V.blocks p ∧ StRow A lo V.names q ∧ InRow A lo V.sizes u
theorem VerRow.ver {A : St} {lo : Nat} {V : VerT} {v : Value} (h : VerRow A lo V v) : VerV A V v := by
  obtain ⟨p, q, u, h1, h2, h3, h4⟩ := h
  exact ⟨p, q, u, h1, Row.view h2, Row.view h3, Row.view h4⟩
theorem VerRow.keep {A A' : St} {lo lo' : Nat} {V : VerT} {v : Value} (h : VerRow A lo V v) (hn : A.next ≤ A'.next) (hk : ∀ b, lo ≤ b → b < A.next → A'.get b = A.get b) (hl : lo' ≤ lo) : VerRow A' lo' V v := by
  obtain ⟨p, q, u, h1, h2, h3, h4⟩ := h
  exact ⟨p, q, u, h1, Row.keep h2 hn (fun b _ hb hlt => hk b hb hlt) hl, Row.keep h3 hn (fun b _ hb hlt => hk b hb hlt) hl, Row.keep h4 hn (fun b _ hb hlt => hk b hb hlt) hl⟩
theorem verV0 (A : St) (lo : Nat) : VerRow A lo V0 (.agg #[.int .u32 0, .slice none 0 0, .slice none 0 0, .slice none 0 0]) :=
  ⟨_, _, _, rfl, Row.nil .., Row.nil .., Row.nil ..⟩
def ReadPost (A : St) (r : VerT × List Int × Int) (e : Ending) (A' : St) : Prop := ∃ v, e = .returned (.tuple #[v, .string (strOfNums r.2.1), .int .i64 r.2.2]) ∧ Over A A' ∧ VerRow A' A.next r.1 v
theorem hs_push {A : St} {lo : Nat} {l : List HashT} {v : Value} (h : HsRow A lo l v) (x : HashT) (hlo : lo ≤ A.next) (hl : l.length ≤ 1048576) :
    ∃ v' A', aappend Try.prog (A.alloc (.cells (hsC x) 43 (some 0))) 23 23 v (.slice (some ⟨A.next, 0, none⟩) 1 1) = some (v', A') ∧ HsRow A' lo (l ++ [x]) v' ∧ A'.next = A.next + 2 ∧ rowB v' = some (A.next + 1) ∧ ∀ b, b < A.next → rowB v ≠ some b → A'.get b = A.get b := by
  obtain ⟨v', A2, hap, hr2, hn2, hrb, hf2⟩ := row_push (A := A) (sp := none) (c := 1) (xs := hsC x) Try.el23 Try.underlying23 (by intro k; exact TypeDesc.noConfusion) Try.sz43 Try.byt43 Try.zero43 rfl h hlo (by omega) (by omega) (hsC_cell x) (hsC_len x)
  refine ⟨v', A2, hap, ?_, hn2, hrb, hf2⟩
  unfold HsRow
  rw [List.flatMap_append, List.length_append]; simpa using hr2
theorem st_push {A : St} {lo : Nat} {l : List ByteArray} {v : Value} (h : StRow A lo l v) (x : ByteArray) (hlo : lo ≤ A.next) (hl : l.length ≤ 1073741824) :
    ∃ v' A', aappend Try.prog (A.alloc (.cells [.string x] 9 (some 0))) 24 24 v (.slice (some ⟨A.next, 0, none⟩) 1 1) = some (v', A') ∧ StRow A' lo (l ++ [x]) v' ∧ A'.next = A.next + 2 ∧ rowB v' = some (A.next + 1) ∧ ∀ b, b < A.next → rowB v ≠ some b → A'.get b = A.get b := by
  obtain ⟨v', A2, hap, hr2, hn2, hrb, hf2⟩ := row_push (A := A) (sp := none) (c := 1) (xs := [.string x]) Try.el24 Try.underlying24 (by intro k; exact TypeDesc.noConfusion) Try.sz9 Try.byt9 Try.zero9 rfl h hlo (by omega) (by omega) rfl rfl
  refine ⟨v', A2, hap, ?_, hn2, hrb, hf2⟩
  unfold StRow
  rw [List.flatMap_append, List.length_append]; exact hr2
theorem in_push {A : St} {lo : Nat} {l : List Int} {v : Value} (h : InRow A lo l v) (x : Int) (hlo : lo ≤ A.next) (hl : l.length ≤ 1073741824) :
    ∃ v' A', aappend Try.prog (A.alloc (.cells [.int .i64 x] 3 (some 0))) 25 25 v (.slice (some ⟨A.next, 0, none⟩) 1 1) = some (v', A') ∧ InRow A' lo (l ++ [x]) v' ∧ A'.next = A.next + 2 ∧ rowB v' = some (A.next + 1) ∧ ∀ b, b < A.next → rowB v ≠ some b → A'.get b = A.get b := by
  obtain ⟨v', A2, hap, hr2, hn2, hrb, hf2⟩ := row_push (A := A) (sp := none) (c := 1) (xs := [.int .i64 x]) Try.el25 Try.underlying25 (by intro k; exact TypeDesc.noConfusion) Try.sz3 Try.byt3 Try.zero3 rfl h hlo (by omega) (by omega) rfl rfl
  refine ⟨v', A2, hap, ?_, hn2, hrb, hf2⟩
  unfold InRow
  rw [List.flatMap_append, List.length_append]; exact hr2
def verB (id : Int) (p q u : Value) : Blk := .cells [.int .u32 id, p, q, u] 27 (some 0)
/-- The heap while a version is read. -/
structure RJ (A : St) (id : Int) (s : RS) (p q u : Value) (B : List HashT) (N : List ByteArray) (S : List Int) (A' : St) : Prop where
  over : Over A A'
  lo : A.next + 3 ≤ A'.next
  res : A'.get A.next = some (verB 0 (.slice none 0 0) (.slice none 0 0) (.slice none 0 0))
  rd : A'.get (A.next + 1) = some (rdB s)
  vs : A'.get (A.next + 2) = some (verB id p q u)
  rb : HsRow A' (A.next + 3) B p
  rn : StRow A' (A.next + 3) N q
  rs : InRow A' (A.next + 3) S u
  d1 : ∀ b, rowB p = some b → rowB q ≠ some b
  d2 : ∀ b, rowB p = some b → rowB u ≠ some b
  d3 : ∀ b, rowB q = some b → rowB u ≠ some b
variable {A A' : St} {id : Int} {st : RS} {p q u : Value} {B : List HashT} {N : List ByteArray} {S : List Int}
theorem RJ.setRd (h : RJ A id st p q u B N S A') (s' : RS) : RJ A id s' p q u B N S (A'.upd (A.next + 1) (some (rdB s'))) := by
  have hl := h.lo
  refine ⟨h.over.upd (by omega) _, h.lo, ?_, get_upd_same .., ?_, Row.keep h.rb (Nat.le_refl _) (fun b hb y _ => by rw [St.get_upd, if_neg (by omega)]) (Nat.le_refl _), Row.keep h.rn (Nat.le_refl _) (fun b hb y _ => by rw [St.get_upd, if_neg (by omega)]) (Nat.le_refl _), Row.keep h.rs (Nat.le_refl _) (fun b hb y _ => by rw [St.get_upd, if_neg (by omega)]) (Nat.le_refl _), h.d1, h.d2, h.d3⟩
  · rw [St.get_upd, if_neg (by omega)]; exact h.res
  · rw [St.get_upd, if_neg (by omega)]; exact h.vs
theorem RJ.pushB (h : RJ A id st p q u B N S A') (x : HashT) (hl : B.length ≤ 1048576) :
    ∃ v' A2, aappend Try.prog (A'.alloc (.cells (hsC x) 43 (some 0))) 23 23 p (.slice (some ⟨A'.next, 0, none⟩) 1 1) = some (v', A2) ∧ A2.get (A.next + 2) = some (verB id p q u) ∧ one1 v' = true ∧ RJ A id st v' q u (B ++ [x]) N S (A2.upd (A.next + 2) (some (verB id v' q u))) := by
  have hlo := h.lo
  obtain ⟨v', A2, hap, hr2, hn2, hrb, hf2⟩ := hs_push h.rb x (by omega) hl
  have low : ∀ b, b < A.next + 3 → A2.get b = A'.get b := fun b hb => hf2 b (by omega) (fun e => by have := (Row.rb h.rb b e).1; omega)
  have kn : StRow A2 (A.next + 3) N q := Row.keep h.rn (by omega) (fun b hb _ hlt => hf2 b hlt (fun e => h.d1 b e hb)) (Nat.le_refl _)
  have ks : InRow A2 (A.next + 3) S u := Row.keep h.rs (by omega) (fun b hb _ hlt => hf2 b hlt (fun e => h.d2 b e hb)) (Nat.le_refl _)
  have bq := fun b hb => (Row.rb h.rn b hb).2
  have bu := fun b hb => (Row.rb h.rs b hb).2
  refine ⟨v', A2, hap, (low _ (by omega)).trans h.vs, Row.sing hr2, ⟨⟨by have := h.over.next; simp only [nx_upd]; omega, fun b hb => ?_⟩, by simp only [nx_upd]; omega, ?_, ?_, get_upd_same .., Row.keep hr2 (Nat.le_refl _) (fun b hb y _ => by rw [St.get_upd, if_neg (by omega)]) (Nat.le_refl _), Row.keep kn (Nat.le_refl _) (fun b hb y _ => by rw [St.get_upd, if_neg (by omega)]) (Nat.le_refl _), Row.keep ks (Nat.le_refl _) (fun b hb y _ => by rw [St.get_upd, if_neg (by omega)]) (Nat.le_refl _), fun b hb e => ?_, fun b hb e => ?_, h.d3⟩⟩
  · rw [St.get_upd, if_neg (by omega), low b (by omega)]; exact h.over.get b hb
  · rw [St.get_upd, if_neg (by omega), low _ (by omega)]; exact h.res
  · rw [St.get_upd, if_neg (by omega), low _ (by omega)]; exact h.rd
  · rw [hrb] at hb; have := Option.some.inj hb; have := bq b e; omega
  · rw [hrb] at hb; have := Option.some.inj hb; have := bu b e; omega
theorem RJ.pushN (h : RJ A id st p q u B N S A') (x : ByteArray) (hl : N.length ≤ 1048576) :
    ∃ v' A2, aappend Try.prog (A'.alloc (.cells [.string x] 9 (some 0))) 24 24 q (.slice (some ⟨A'.next, 0, none⟩) 1 1) = some (v', A2) ∧ A2.get (A.next + 2) = some (verB id p q u) ∧ one1 v' = true ∧ RJ A id st p v' u B (N ++ [x]) S (A2.upd (A.next + 2) (some (verB id p v' u))) := by
  have hlo := h.lo
  obtain ⟨v', A2, hap, hr2, hn2, hrb, hf2⟩ := st_push h.rn x (by omega) (by omega)
  have low : ∀ b, b < A.next + 3 → A2.get b = A'.get b := fun b hb => hf2 b (by omega) (fun e => by have := (Row.rb h.rn b e).1; omega)
  have kb : HsRow A2 (A.next + 3) B p := Row.keep h.rb (by omega) (fun b hb _ hlt => hf2 b hlt (fun e => h.d1 b hb e)) (Nat.le_refl _)
  have ks : InRow A2 (A.next + 3) S u := Row.keep h.rs (by omega) (fun b hb _ hlt => hf2 b hlt (fun e => h.d3 b e hb)) (Nat.le_refl _)
  have bp := fun b hb => (Row.rb h.rb b hb).2
  have bu := fun b hb => (Row.rb h.rs b hb).2
  refine ⟨v', A2, hap, (low _ (by omega)).trans h.vs, Row.sing hr2, ⟨⟨by have := h.over.next; simp only [nx_upd]; omega, fun b hb => ?_⟩, by simp only [nx_upd]; omega, ?_, ?_, get_upd_same .., Row.keep kb (Nat.le_refl _) (fun b hb y _ => by rw [St.get_upd, if_neg (by omega)]) (Nat.le_refl _), Row.keep hr2 (Nat.le_refl _) (fun b hb y _ => by rw [St.get_upd, if_neg (by omega)]) (Nat.le_refl _), Row.keep ks (Nat.le_refl _) (fun b hb y _ => by rw [St.get_upd, if_neg (by omega)]) (Nat.le_refl _), fun b hb e => ?_, h.d2, fun b hb e => ?_⟩⟩
  · rw [St.get_upd, if_neg (by omega), low b (by omega)]; exact h.over.get b hb
  · rw [St.get_upd, if_neg (by omega), low _ (by omega)]; exact h.res
  · rw [St.get_upd, if_neg (by omega), low _ (by omega)]; exact h.rd
  · rw [hrb] at e; have := Option.some.inj e; have := bp b hb; omega
  · rw [hrb] at hb; have := Option.some.inj hb; have := bu b e; omega
theorem RJ.pushS (h : RJ A id st p q u B N S A') (x : Int) (hl : S.length ≤ 1048576) :
    ∃ v' A2, aappend Try.prog (A'.alloc (.cells [.int .i64 x] 3 (some 0))) 25 25 u (.slice (some ⟨A'.next, 0, none⟩) 1 1) = some (v', A2) ∧ A2.get (A.next + 2) = some (verB id p q u) ∧ one1 v' = true ∧ RJ A id st p q v' B N (S ++ [x]) (A2.upd (A.next + 2) (some (verB id p q v'))) := by
  have hlo := h.lo
  obtain ⟨v', A2, hap, hr2, hn2, hrb, hf2⟩ := in_push h.rs x (by omega) (by omega)
  have low : ∀ b, b < A.next + 3 → A2.get b = A'.get b := fun b hb => hf2 b (by omega) (fun e => by have := (Row.rb h.rs b e).1; omega)
  have kb : HsRow A2 (A.next + 3) B p := Row.keep h.rb (by omega) (fun b hb _ hlt => hf2 b hlt (fun e => h.d2 b hb e)) (Nat.le_refl _)
  have kn : StRow A2 (A.next + 3) N q := Row.keep h.rn (by omega) (fun b hb _ hlt => hf2 b hlt (fun e => h.d3 b hb e)) (Nat.le_refl _)
  have bp := fun b hb => (Row.rb h.rb b hb).2
  have bq := fun b hb => (Row.rb h.rn b hb).2
  refine ⟨v', A2, hap, (low _ (by omega)).trans h.vs, Row.sing hr2, ⟨⟨by have := h.over.next; simp only [nx_upd]; omega, fun b hb => ?_⟩, by simp only [nx_upd]; omega, ?_, ?_, get_upd_same .., Row.keep kb (Nat.le_refl _) (fun b hb y _ => by rw [St.get_upd, if_neg (by omega)]) (Nat.le_refl _), Row.keep kn (Nat.le_refl _) (fun b hb y _ => by rw [St.get_upd, if_neg (by omega)]) (Nat.le_refl _), Row.keep hr2 (Nat.le_refl _) (fun b hb y _ => by rw [St.get_upd, if_neg (by omega)]) (Nat.le_refl _), h.d1, fun b hb e => ?_, fun b hb e => ?_⟩⟩
  · rw [St.get_upd, if_neg (by omega), low b (by omega)]; exact h.over.get b hb
  · rw [St.get_upd, if_neg (by omega), low _ (by omega)]; exact h.res
  · rw [St.get_upd, if_neg (by omega), low _ (by omega)]; exact h.rd
  · rw [hrb] at e; have := Option.some.inj e; have := bp b hb; omega
  · rw [hrb] at e; have := Option.some.inj e; have := bq b hb; omega
theorem RJ.ver (h : RJ A id st p q u B N S A') : VerV A' ⟨id, B, N, S⟩ (.agg #[.int .u32 id, p, q, u]) := ⟨p, q, u, rfl, Row.view h.rb, Row.view h.rn, Row.view h.rs⟩
theorem RJ.verRes (h : RJ A id st p q u B N S A') (b : Option Blk) : VerRow (A'.upd A.next b) A.next ⟨id, B, N, S⟩ (.agg #[.int .u32 id, p, q, u]) :=
  VerRow.keep (A := A') ⟨p, q, u, rfl, h.rb, h.rn, h.rs⟩ (Nat.le_refl _) (fun b hb _ => by rw [St.get_upd, if_neg (by omega)]) (by omega)
set_option maxHeartbeats 8000000 in
theorem read_ver_ok (w0 : World) (A : St) (s : ByteArray) (hs : s.size ≤ 1048576) : ACalls Try.prog w0 81 #[.string s] A (ReadPost A (progR (nums s))) := by
  refine call_E Try.enters81 Try.func81 rfl (Nat.le_of_ble_eq_true rfl) fun hw hbd => ?_
  have hby := nums_byte s
  have hnl := nums_length s
  obtain ⟨i1, i2, i3⟩ := idS_ok hby
  generalize hr : nums s = r at *
  have hst : s = strOfNums r := by rw [← hr, str_nums]
  subst hst
  simp (maxSteps := 1000000) (disch := (first | omega | (simp only [nx_alloc, nx_upd, len_cons, len_nil, List.length_set, List.length_map, List.length_append] <;> omega) | fail)) only [go_sem, Try.ntmps81, Try.results81]
  refine call1 (rid_ok w0 _ (A.next + 1) r (by simp (disch := (first | omega | (simp only [nx_alloc, nx_upd, len_cons, len_nil, List.length_set, List.length_map, List.length_append] <;> omega) | fail)) only [St.get_upd, St.get_alloc, St.next_alloc, St.next_upd, ↓reduceIte, natF_lt, natF_gt, natF_ne, Nat.add_assoc, Nat.reduceAdd, Nat.reduceEqDiff, Nat.add_left_cancel_iff]; rfl) hby (by omega)) ?_
  have j1 : ∀ A1, A1 = (((A.alloc (verB 0 (.slice none 0 0) (.slice none 0 0) (.slice none 0 0))).alloc (.cells [.string (strOfNums r), .int .i64 0] 134 (some 0))).upd (A.next + 1) (some (rdB (idS (r, 0)).2))) → Over A A1 ∧ A1.next = A.next + 2 ∧ A1.get A.next = some (verB 0 (.slice none 0 0) (.slice none 0 0) (.slice none 0 0)) ∧ A1.get (A.next + 1) = some (rdB (idS (r, 0)).2) := by
    rintro A1 rfl
    exact ⟨(((Over.refl A).alloc _).alloc _).upd (by omega) _, rfl, by simp (disch := (first | omega | (simp only [nx_alloc, nx_upd, len_cons, len_nil, List.length_set, List.length_map, List.length_append] <;> omega) | fail)) only [St.get_upd, St.get_alloc, St.next_alloc, St.next_upd, ↓reduceIte, natF_lt, natF_gt, natF_ne, Nat.add_assoc, Nat.reduceAdd, Nat.reduceEqDiff, Nat.add_left_cancel_iff], by simp (disch := (first | omega | (simp only [nx_alloc, nx_upd, len_cons, len_nil, List.length_set, List.length_map, List.length_append] <;> omega) | fail)) only [St.get_upd, St.get_alloc, St.next_alloc, St.next_upd, ↓reduceIte, natF_lt, natF_gt, natF_ne, Nat.add_assoc, Nat.reduceAdd, Nat.reduceEqDiff, Nat.add_left_cancel_iff]⟩
  obtain ⟨A1, hA1⟩ : ∃ A1, A1 = (((A.alloc (verB 0 (.slice none 0 0) (.slice none 0 0) (.slice none 0 0))).alloc (.cells [.string (strOfNums r), .int .i64 0] 134 (some 0))).upd (A.next + 1) (some (rdB (idS (r, 0)).2))) := ⟨_, rfl⟩
  obtain ⟨o1, n1, z0, z1⟩ := j1 A1 hA1
  change afterCall _ _ _ _ _ (((A.alloc (verB 0 (.slice none 0 0) (.slice none 0 0) (.slice none 0 0))).alloc (.cells [.string (strOfNums r), .int .i64 0] 134 (some 0))).upd (A.next + 1) (some (rdB (idS (r, 0)).2)))
  rw [← hA1]
  simp (maxSteps := 1000000) (disch := (first | omega | (simp only [nx_alloc, nx_upd, len_cons, len_nil, List.length_set, List.length_map, List.length_append] <;> omega) | fail)) only [go_sem, n1]
  obtain ⟨A2, hA2⟩ : ∃ A2, A2 = (A1.alloc (verB 0 (.slice none 0 0) (.slice none 0 0) (.slice none 0 0))).upd (A.next + 2) (some (verB (idS (r, 0)).1 (.slice none 0 0) (.slice none 0 0) (.slice none 0 0))) := ⟨_, rfl⟩
  have j2 : RJ A (idS (r, 0)).1 (idS (r, 0)).2 (.slice none 0 0) (.slice none 0 0) (.slice none 0 0) [] [] [] A2 := by
    rw [hA2]
    refine ⟨(o1.alloc _).upd (by omega) _, by simp only [nx_upd, nx_alloc]; omega, ?_, ?_, get_upd_same .., Row.nil .., Row.nil .., Row.nil .., fun b hb => (by cases hb), fun b hb => (by cases hb), fun b hb => (by cases hb)⟩
    · rw [St.get_upd, if_neg (by omega), get_alloc_old (by omega)]; exact z0
    · rw [St.get_upd, if_neg (by omega), get_alloc_old (by omega)]; exact z1
  change ACalls _ _ _ _ ((A1.alloc (verB 0 (.slice none 0 0) (.slice none 0 0) (.slice none 0 0))).upd (A.next + 2) (some (verB (idS (r, 0)).1 (.slice none 0 0) (.slice none 0 0) (.slice none 0 0)))) _
  rw [← hA2]
  clear hA2 hA1 j1
  refine call1 (many_ok w0 A2 (A.next + 1) (idS (r, 0)).2 16 j2.rd i1.1 (by have := i1.2; omega) (by decide)) ?_
  have j3 := j2.setRd (manyS 16 (idS (r, 0)).2).2
  obtain ⟨m1, m2, m3⟩ := manyS_ok 16 (by decide) i1
  have hrN : readN r = manyS 16 (idS (r, 0)).2 := rfl
  have hrI : readI r = idS (r, 0) := rfl
  obtain ⟨nn, hnn⟩ := Int.eq_ofNat_of_zero_le m2
  have hrB : hashN nn (manyS 16 (idS (r, 0)).2).2 [] = readB r := by unfold readB; rw [hrN, hnn]; rfl
  have hn16 : nn ≤ 16 := by have := m3; omega
  rw [hnn]
  generalize A2.upd (A.next + 1) (some (rdB (manyS 16 (idS (r, 0)).2).2)) = A3 at j3
  generalize (manyS 16 (idS (r, 0)).2).2 = s3 at *
  have hid : (readI r).1 = (idS (r, 0)).1 := rfl
  generalize (idS (r, 0)).1 = id at *
  simp (maxSteps := 1000000) (disch := (first | omega | (simp only [nx_alloc, nx_upd, len_cons, len_nil, List.length_set, List.length_map, List.length_append] <;> omega) | fail)) only [go_sem]
  refine aw_loop (fun k x A' => ∃ (ρ : Nat → Value) (i : Nat) (B : List HashT) (st : RS) (p : Value), x = E 72 ρ [] ∧ k = nn - i ∧ i ≤ nn ∧ RJ A id st p (.slice none 0 0) (.slice none 0 0) B [] [] A' ∧ RSok r.length st ∧ B.length = i ∧ hashN (nn - i) st B = readB r ∧
      ρ 2 = .pointer (some ⟨A.next, 0, none⟩) ∧ ρ 5 = .pointer (some ⟨A.next + 1, 0, none⟩) ∧ ρ 6 = .pointer (some ⟨A.next + 2, 0, none⟩) ∧ ρ 7 = .func (.func 97) #[.pointer (some ⟨A.next + 1, 0, none⟩)] #[] ∧ ρ 8 = .func (.func 98) #[.pointer (some ⟨A.next + 1, 0, none⟩)] #[] ∧ ρ 21 = .int .i64 nn ∧ ρ 22 = .int .i64 i) nn
    ⟨_, 0, [], s3, _, rfl, rfl, Nat.zero_le _, j3, m1, rfl, hrB, rfl, rfl, rfl, rfl, rfl, rfl, rfl⟩ ?_
  clear j3 j2 m1 hrB
  rintro k x A' ⟨ρ, i, B, st, p, rfl, hk, hi, j, hrs, hBl, hhn, g2, g5, g6, g7, g8, g21, g22⟩
  refine aw_of ?_
  have hlo := j.lo
  by_cases hend : i = nn
  rotate_left
  · have e1 : ((i : Int) < nn) := by omega
    have hst : hashN (nn - i) st B = hashN (nn - (i + 1)) (hashS st).2 (B ++ [(hashS st).1]) := by
      obtain ⟨q, hq⟩ : ∃ q, nn - i = q + 1 := ⟨nn - i - 1, by omega⟩
      rw [hq, show nn - (i + 1) = q by omega]; rfl
    rw [hst] at hhn
    have hcall := rhash_ok w0 A' (A.next + 1) st j.rd hrs.1 (by have := hrs.2; omega)
    have jr := j.setRd (hashS st).2
    have hrs2 := hashS_ok hrs
    generalize (hashS st).1 = h at *
    generalize (hashS st).2 = st2 at *
    obtain ⟨v', A4, hap, hv4, hv1, j4⟩ := jr.pushB h (by omega)
    have hset := set_all [.int .u8 0, .int .u8 0, .int .u8 0, .int .u8 0, .int .u8 0, .int .u8 0, .int .u8 0, .int .u8 0, .int .u8 0, .int .u8 0, .int .u8 0, .int .u8 0, .int .u8 0, .int .u8 0, .int .u8 0, .int .u8 0, .int .u8 0, .int .u8 0, .int .u8 0, .int .u8 0, .int .u8 0, .int .u8 0, .int .u8 0, .int .u8 0, .int .u8 0, .int .u8 0, .int .u8 0, .int .u8 0, .int .u8 0, .int .u8 0, .int .u8 0, .int .u8 0] (hsC h) (by rw [hsC_len]; rfl)
    have hlen32 := hsC_len h
    have hvs := j.vs
    unfold verB at hvs hv4
    simp (maxSteps := 1000000) (disch := (first | omega | (simp only [nx_alloc, nx_upd, len_cons, len_nil, List.length_set, List.length_map, List.length_append] <;> omega) | fail)) only [go_sem, g2, g5, g6, g7, g8, g21, g22]
    refine aw_draw2 [⟨false, [], [0, 1, 2]⟩, ⟨false, [0], [0, 1, 2]⟩, ⟨false, [], [0]⟩, ⟨true, [2], [0]⟩, ⟨true, [2, 3], [1]⟩, ⟨true, [0, 1, 2, 3, 4], [2]⟩, ⟨false, [0, 1, 2, 3, 4, 5], [3]⟩, ⟨true, [0, 1, 2, 3, 4, 5, 6], [3]⟩] [A', A'.upd (A.next + 1) (some (rdB st2)), (A'.upd (A.next + 1) (some (rdB st2))).alloc (.cells (hsC h) 43 (some 0)), A4, A4.upd (A.next + 2) (some (verB id v' (.slice none 0 0) (.slice none 0 0)))] 4 (by kernel_rfl) (by kernel_rfl) rfl ?_
    simp (maxSteps := 1000000) (disch := (first | omega | (simp only [nx_alloc, nx_upd, len_cons, len_nil, List.length_set, List.length_map, List.length_append] <;> omega) | fail)) only [go_sem, g6, g7, hvs]
    refine ⟨_, hcall, ?_⟩
    simp (maxSteps := 1000000) (disch := (first | omega | (simp only [nx_alloc, nx_upd, len_cons, len_nil, List.length_set, List.length_map, List.length_append] <;> omega) | fail)) only [go_sem, hset]
    rw [nx_upd] at hap
    rw [hap]
    simp (maxSteps := 1000000) (disch := (first | omega | (simp only [nx_alloc, nx_upd, len_cons, len_nil, List.length_set, List.length_map, List.length_append] <;> omega) | fail)) only [go_sem, g6, hv4]
    rw [storeC_val hv1]
    simp (maxSteps := 1000000) (disch := (first | omega | (simp only [nx_alloc, nx_upd, len_cons, len_nil, List.length_set, List.length_map, List.length_append] <;> omega) | fail)) only [go_sem, g22]
    refine ⟨rfl, ?_⟩
    simp (maxSteps := 1000000) (disch := (first | omega | (simp only [nx_alloc, nx_upd, len_cons, len_nil, List.length_set, List.length_map, List.length_append] <;> omega) | fail)) only [go_sem, g22]
    refine ⟨k - 1, by omega, _, i + 1, B ++ [h], st2, v', rfl, by omega, by omega, j4, hrs2, by simp [hBl], hhn, ?_, ?_, ?_, ?_, ?_, ?_, ?_⟩
    · simp (maxSteps := 1000000) (disch := (first | omega | (simp only [nx_alloc, nx_upd, len_cons, len_nil, List.length_set, List.length_map, List.length_append] <;> omega) | fail)) only [go_sem, g2]
    · simp (maxSteps := 1000000) (disch := (first | omega | (simp only [nx_alloc, nx_upd, len_cons, len_nil, List.length_set, List.length_map, List.length_append] <;> omega) | fail)) only [go_sem, g5]
    · simp (maxSteps := 1000000) (disch := (first | omega | (simp only [nx_alloc, nx_upd, len_cons, len_nil, List.length_set, List.length_map, List.length_append] <;> omega) | fail)) only [go_sem, g6]
    · simp (maxSteps := 1000000) (disch := (first | omega | (simp only [nx_alloc, nx_upd, len_cons, len_nil, List.length_set, List.length_map, List.length_append] <;> omega) | fail)) only [go_sem, g7]
    · simp (maxSteps := 1000000) (disch := (first | omega | (simp only [nx_alloc, nx_upd, len_cons, len_nil, List.length_set, List.length_map, List.length_append] <;> omega) | fail)) only [go_sem, g8]
    · simp (maxSteps := 1000000) (disch := (first | omega | (simp only [nx_alloc, nx_upd, len_cons, len_nil, List.length_set, List.length_map, List.length_append] <;> omega) | fail)) only [go_sem, g21]
    · simp (maxSteps := 1000000) (disch := (first | omega | (simp only [nx_alloc, nx_upd, len_cons, len_nil, List.length_set, List.length_map, List.length_append] <;> omega) | fail)) only [go_sem]
      rfl
  have e1 : ¬ ((i : Int) < nn) := by omega
  have hBst : readB r = (B, st) := by rw [← hhn, hend, Nat.sub_self]; rfl
  have hrK : readK r = manyS 12 st := by unfold readK; rw [hBst]
  simp (maxSteps := 1000000) (disch := (first | omega | (simp only [nx_alloc, nx_upd, len_cons, len_nil, List.length_set, List.length_map, List.length_append] <;> omega) | fail)) only [go_sem, g2, g5, g6, g7, g8, g21, g22]
  refine call1 (many_ok w0 A' (A.next + 1) st 12 j.rd hrs.1 (by have := hrs.2; omega) (by decide)) ?_
  have jr := j.setRd (manyS 12 st).2
  obtain ⟨k1, k2, k3⟩ := manyS_ok 12 (by decide) hrs
  obtain ⟨kk, hkk⟩ := Int.eq_ofNat_of_zero_le k2
  have hrP : pairN kk (manyS 12 st).2 [] [] = readP r := by unfold readP; rw [hrK, hkk]; rfl
  have hk12 : kk ≤ 12 := by omega
  have hBv : (readB r).1 = B := by rw [hBst]
  rw [hkk]
  generalize A'.upd (A.next + 1) (some (rdB (manyS 12 st).2)) = A5 at jr
  generalize (manyS 12 st).2 = s5 at *
  simp (maxSteps := 1000000) (disch := (first | omega | (simp only [nx_alloc, nx_upd, len_cons, len_nil, List.length_set, List.length_map, List.length_append] <;> omega) | fail)) only [go_sem]
  refine aw_loop (fun k x A' => ∃ (ρ : Nat → Value) (i : Nat) (N : List ByteArray) (S : List Int) (st : RS) (q u : Value), x = E 72 ρ [] ∧ k = kk - i ∧ i ≤ kk ∧ RJ A id st p q u B N S A' ∧ RSok r.length st ∧ N.length = i ∧ S.length = i ∧ pairN (kk - i) st N S = readP r ∧
      ρ 2 = .pointer (some ⟨A.next, 0, none⟩) ∧ ρ 5 = .pointer (some ⟨A.next + 1, 0, none⟩) ∧ ρ 6 = .pointer (some ⟨A.next + 2, 0, none⟩) ∧ ρ 8 = .func (.func 98) #[.pointer (some ⟨A.next + 1, 0, none⟩)] #[] ∧ ρ 33 = .int .i64 kk ∧ ρ 34 = .int .i64 i) kk
    ⟨_, 0, [], [], s5, _, _, rfl, rfl, Nat.zero_le _, jr, k1, rfl, rfl, hrP, g2, g5, g6, g8, rfl, rfl⟩ ?_
  have hB16 : B.length ≤ 16 := by omega
  clear jr j k1 hrP g2 g5 g6 g7 g8 g21 g22 hhn hrs hlo hk hi hend e1
  rintro k x A' ⟨ρ, i, N, S, st, q, u, rfl, hk, hi, j, hrs, hNl, hSl, hpn, g2, g5, g6, g8, g33, g34⟩
  refine aw_of ?_
  have hlo := j.lo
  have hvs := j.vs
  have hrd := j.rd
  have hrs0 := j.res
  unfold verB at hvs hrs0
  unfold rdB at hrd
  by_cases hend : i = kk
  rotate_left
  · have e1 : ((i : Int) < kk) := by omega
    have hst : pairN (kk - i) st N S = pairN (kk - (i + 1)) (manyS 300 (textS st).2).2 (N ++ [strOfNums (textS st).1]) (S ++ [(manyS 300 (textS st).2).1]) := by
      obtain ⟨q, hq⟩ : ∃ q, kk - i = q + 1 := ⟨kk - i - 1, by omega⟩
      rw [hq, show kk - (i + 1) = q by omega]; rfl
    rw [hst] at hpn
    have hcall := rtxt_ok w0 A' (A.next + 1) st j.rd hrs.1 (by have := hrs.2; omega)
    have jr := j.setRd (textS st).2
    have hrs2 := textS_ok hrs
    generalize (textS st).1 = tx at *
    generalize (textS st).2 = st2 at *
    obtain ⟨v', A6, hap, hv6, hv1, j6⟩ := jr.pushN (strOfNums tx) (by omega)
    have hcall2 := many_ok w0 (A6.upd (A.next + 2) (some (verB id p v' u))) (A.next + 1) st2 300 j6.rd hrs2.1 (by have := hrs2.2; omega) (by decide)
    have jr2 := j6.setRd (manyS 300 st2).2
    have hrs3 := (manyS_ok 300 (by decide) hrs2).1
    have hvs6 := j6.vs
    have hlo6 := j6.lo
    generalize (manyS 300 st2).1 = mz at *
    generalize (manyS 300 st2).2 = st3 at *
    obtain ⟨v'', A7, hap7, hv7, hv71, j7⟩ := jr2.pushS mz (by omega)
    simp (maxSteps := 1000000) (disch := (first | omega | (simp only [nx_alloc, nx_upd, len_cons, len_nil, List.length_set, List.length_map, List.length_append] <;> omega) | fail)) only [go_sem, g2, g5, g6, g8, g33, g34]
    unfold verB at hv6
    refine aw_draw2 [⟨false, [], [0, 1, 2]⟩, ⟨false, [0], [0, 1, 2]⟩, ⟨false, [], [0]⟩, ⟨true, [2], [0]⟩, ⟨true, [2, 3], [1]⟩, ⟨true, [0, 1, 2, 3, 4], [2]⟩, ⟨false, [0, 1, 2, 3, 4, 5], [3]⟩, ⟨true, [0, 1, 2, 3, 4, 5, 6], [3]⟩] [A', A'.upd (A.next + 1) (some (rdB st2)), (A'.upd (A.next + 1) (some (rdB st2))).alloc (.cells [.string (strOfNums tx)] 9 (some 0)), A6, A6.upd (A.next + 2) (some (verB id p v' u))] 4 (by kernel_rfl) (by kernel_rfl) rfl ?_
    simp (maxSteps := 1000000) (disch := (first | omega | (simp only [nx_alloc, nx_upd, len_cons, len_nil, List.length_set, List.length_map, List.length_append] <;> omega) | fail)) only [go_sem, g6, g8, hvs]
    refine ⟨_, hcall, ?_⟩
    simp (maxSteps := 1000000) (disch := (first | omega | (simp only [nx_alloc, nx_upd, len_cons, len_nil, List.length_set, List.length_map, List.length_append] <;> omega) | fail)) only [go_sem]
    rw [nx_upd] at hap
    rw [hap]
    simp (maxSteps := 1000000) (disch := (first | omega | (simp only [nx_alloc, nx_upd, len_cons, len_nil, List.length_set, List.length_map, List.length_append] <;> omega) | fail)) only [go_sem, g6, hv6]
    rw [storeC_val hv1]
    simp (maxSteps := 1000000) (disch := (first | omega | (simp only [nx_alloc, nx_upd, len_cons, len_nil, List.length_set, List.length_map, List.length_append] <;> omega) | fail)) only [go_sem]
    refine ⟨rfl, ?_⟩
    generalize A6.upd (A.next + 2) (some (verB id p v' u)) = A8 at *
    unfold verB at hv7 hvs6
    simp (maxSteps := 1000000) (disch := (first | omega | (simp only [nx_alloc, nx_upd, len_cons, len_nil, List.length_set, List.length_map, List.length_append] <;> omega) | fail)) only [go_sem]
    refine aw_draw2 [⟨false, [], [0, 1, 2]⟩, ⟨false, [0], [0, 1, 2]⟩, ⟨false, [], [0]⟩, ⟨true, [2], [0]⟩, ⟨true, [2, 3], [1]⟩, ⟨true, [0, 1, 2, 3, 4], [2]⟩, ⟨false, [0, 1, 2, 3, 4, 5], [3]⟩, ⟨true, [0, 1, 2, 3, 4, 5, 6], [3]⟩] [A8, A8.upd (A.next + 1) (some (rdB st3)), (A8.upd (A.next + 1) (some (rdB st3))).alloc (.cells [.int .i64 mz] 3 (some 0)), A7, A7.upd (A.next + 2) (some (verB id p v' v''))] 4 (by kernel_rfl) (by kernel_rfl) rfl ?_
    simp (maxSteps := 1000000) (disch := (first | omega | (simp only [nx_alloc, nx_upd, len_cons, len_nil, List.length_set, List.length_map, List.length_append] <;> omega) | fail)) only [go_sem, g5, g6, hvs6]
    refine ⟨_, hcall2, ?_⟩
    simp (maxSteps := 1000000) (disch := (first | omega | (simp only [nx_alloc, nx_upd, len_cons, len_nil, List.length_set, List.length_map, List.length_append] <;> omega) | fail)) only [go_sem]
    rw [nx_upd] at hap7
    rw [hap7]
    simp (maxSteps := 1000000) (disch := (first | omega | (simp only [nx_alloc, nx_upd, len_cons, len_nil, List.length_set, List.length_map, List.length_append] <;> omega) | fail)) only [go_sem, g6, hv7]
    rw [storeC_val hv71]
    simp (maxSteps := 1000000) (disch := (first | omega | (simp only [nx_alloc, nx_upd, len_cons, len_nil, List.length_set, List.length_map, List.length_append] <;> omega) | fail)) only [go_sem, g34]
    refine ⟨rfl, ?_⟩
    simp (maxSteps := 1000000) (disch := (first | omega | (simp only [nx_alloc, nx_upd, len_cons, len_nil, List.length_set, List.length_map, List.length_append] <;> omega) | fail)) only [go_sem, g34]
    refine ⟨k - 1, by omega, _, i + 1, N ++ [strOfNums tx], S ++ [mz], st3, v', v'', rfl, by omega, by omega, j7, hrs3, by simp [hNl], by simp [hSl], hpn, ?_, ?_, ?_, ?_, ?_, ?_⟩
    · simp (maxSteps := 1000000) (disch := (first | omega | (simp only [nx_alloc, nx_upd, len_cons, len_nil, List.length_set, List.length_map, List.length_append] <;> omega) | fail)) only [go_sem, g2]
    · simp (maxSteps := 1000000) (disch := (first | omega | (simp only [nx_alloc, nx_upd, len_cons, len_nil, List.length_set, List.length_map, List.length_append] <;> omega) | fail)) only [go_sem, g5]
    · simp (maxSteps := 1000000) (disch := (first | omega | (simp only [nx_alloc, nx_upd, len_cons, len_nil, List.length_set, List.length_map, List.length_append] <;> omega) | fail)) only [go_sem, g6]
    · simp (maxSteps := 1000000) (disch := (first | omega | (simp only [nx_alloc, nx_upd, len_cons, len_nil, List.length_set, List.length_map, List.length_append] <;> omega) | fail)) only [go_sem, g8]
    · simp (maxSteps := 1000000) (disch := (first | omega | (simp only [nx_alloc, nx_upd, len_cons, len_nil, List.length_set, List.length_map, List.length_append] <;> omega) | fail)) only [go_sem, g33]
    · simp (maxSteps := 1000000) (disch := (first | omega | (simp only [nx_alloc, nx_upd, len_cons, len_nil, List.length_set, List.length_map, List.length_append] <;> omega) | fail)) only [go_sem]
      rfl
  have e1 : ¬ ((i : Int) < kk) := by omega
  have hPst : readP r = ((N, S), st) := by rw [← hpn, hend, Nat.sub_self]; rfl
  obtain ⟨rest, e⟩ := st
  have hld0 : loadC (some true) (some 4) (some (.cells [.int .u32 0, .slice none 0 0, .slice none 0 0, .slice none 0 0] 27 (some 0))) 0 = some (.agg #[.int .u32 0, .slice none 0 0, .slice none 0 0, .slice none 0 0]) := by rw [loadC_agg _ _ _ _ _ (by simp), List.drop_zero]; rfl
  have c1 : ∀ v : Value, one1 v = true → cell1 v = true := fun v h => by cases v <;> first | rfl | (simp [one1] at h)
  have hc1 := c1 _ (Row.sing j.rb)
  have hc2 := c1 _ (Row.sing j.rn)
  have hc3 := c1 _ (Row.sing j.rs)
  simp (maxSteps := 1000000) (disch := (first | omega | (simp only [nx_alloc, nx_upd, len_cons, len_nil, List.length_set, List.length_map, List.length_append] <;> omega) | fail)) only [go_sem, g2, g5, g6, g8, g33, g34, hrd]
  by_cases he : e = 0
  rotate_left
  · have hres : progR r = (V0, [], e) := by unfold progR; rw [hPst]; exact if_pos he
    rw [hres]
    have e2 : ¬ (e = 0) := he
    simp (maxSteps := 1000000) (disch := (first | omega | (simp only [nx_alloc, nx_upd, len_cons, len_nil, List.length_set, List.length_map, List.length_append] <;> omega) | fail)) only [go_sem, he]
    refine aw_draw2 [⟨false, [], [0]⟩, ⟨false, [], [0, 1]⟩, ⟨false, [1], [0, 1]⟩, ⟨false, [1, 2], [0, 1]⟩, ⟨false, [1, 2, 3], [0, 1]⟩, ⟨true, [0], [0]⟩, ⟨false, [0, 5], [1]⟩, ⟨false, [0, 1, 2, 3, 4, 5, 6], [1]⟩] [A', A'.upd A.next (some (.cells [.int .u32 0, .slice none 0 0, .slice none 0 0, .slice none 0 0] 27 (some 0)))] 1 (by kernel_rfl) (by kernel_rfl) rfl ?_
    simp (maxSteps := 1000000) (disch := (first | omega | (simp only [nx_alloc, nx_upd, len_cons, len_nil, List.length_set, List.length_map, List.length_append] <;> omega) | fail)) only [go_sem, g5, g2, hrd, hrs0, Try.results81, hld0]
    exact gc_here ⟨_, rfl, j.over.upd (Nat.le_refl _) _, verV0 _ _⟩
  subst he
  have hsm : VerT.small ⟨id, B, N, S⟩ := ⟨by simp only; omega, by simp only; omega, by simp only; omega⟩
  have hmay := may_ok w0 A' ⟨id, B, N, S⟩ _ j.ver hsm
  have hld : loadC (some true) (some 4) (some (.cells [.int .u32 id, p, q, u] 27 (some 0))) 0 = some (.agg #[.int .u32 id, p, q, u]) := by rw [loadC_agg _ _ _ _ _ (by simp), List.drop_zero]; rfl
  simp (maxSteps := 1000000) (disch := (first | omega | (simp only [nx_alloc, nx_upd, len_cons, len_nil, List.length_set, List.length_map, List.length_append] <;> omega) | fail)) only [go_sem, g6, hvs, hld]
  refine call1 hmay ?_
  have hrv : readVer r = ⟨id, B, N, S⟩ := by unfold readVer; rw [hid, hBv, hPst]
  have hres : progR r = if mayB ⟨id, B, N, S⟩ then (⟨id, B, N, S⟩, rest, 0) else (V0, [], 1) := by unfold progR; rw [hPst, hrv]; exact if_neg (by simp)
  rw [hres]
  cases hm : mayB ⟨id, B, N, S⟩ with
  | false =>
    simp (maxSteps := 1000000) (disch := (first | omega | (simp only [nx_alloc, nx_upd, len_cons, len_nil, List.length_set, List.length_map, List.length_append] <;> omega) | fail)) only [go_sem, g2, hrs0, Try.results81, hld0]
    exact gc_here ⟨_, rfl, j.over.upd (Nat.le_refl _) _, verV0 _ _⟩
  | true =>
    simp (maxSteps := 1000000) (disch := (first | omega | (simp only [nx_alloc, nx_upd, len_cons, len_nil, List.length_set, List.length_map, List.length_append] <;> omega) | fail)) only [go_sem]
    refine aw_draw2 [⟨false, [], [0]⟩, ⟨false, [], [0, 1]⟩, ⟨false, [1], [0, 1]⟩, ⟨false, [1, 2], [0, 1]⟩, ⟨false, [1, 2, 3], [0, 1]⟩, ⟨true, [0], [0]⟩, ⟨false, [0, 1, 2, 3, 4, 5], [1]⟩, ⟨false, [0, 1, 2, 3, 4, 5, 6], [1]⟩] [A', A'.upd A.next (some (.cells [.int .u32 id, p, q, u] 27 (some 0)))] 1 (by kernel_rfl) (by kernel_rfl) rfl ?_
    simp (maxSteps := 1000000) (disch := (first | omega | (simp only [nx_alloc, nx_upd, len_cons, len_nil, List.length_set, List.length_map, List.length_append] <;> omega) | fail)) only [go_sem, g5, g2, g6, hvs, hld, hrd, hrs0, hc1, hc2, hc3, Try.results81]
    exact gc_here ⟨_, rfl, j.over.upd (Nat.le_refl _) _, j.verRes _⟩
end Go.Fw
