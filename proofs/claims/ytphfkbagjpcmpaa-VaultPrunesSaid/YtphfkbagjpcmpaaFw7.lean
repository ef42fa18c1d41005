import Derived.Test.YtphfkbagjpcmpaaFw6
/-! That the machine's operations without memory of their own do what is told. -/
set_option linter.unusedSimpArgs false
set_option linter.unusedVariables false
namespace Go.Fw
open Go.RowKit
section
variable {P : Program} {φ : Nat → Option Loc} {n : Nat} {w : World}

theorem asliceS_sound {s : ByteArray} {lo hi lo' hi' : Option Value} {v : Value} {t : TypeId} (ht : P.underlying t = some .string) (e : asliceS s lo hi = some v) (hlo : OR φ n lo lo') (hhi : OR φ n hi hi') :
    (Instr.sliceAt t (.string s) lo' hi' none).run P w = .ok v w ∧ VR φ n v v := by
  unfold asliceS at e
  simp only [Option.map_eq_some_iff, Prod.exists] at e
  obtain ⟨l, h, m, e1, rfl⟩ := e
  obtain ⟨hr, _⟩ := abounds_sound (P := P) (w := w) e1 hlo hhi OR.none (Nat.le_refl _) false
  refine ⟨?_, .string _⟩
  simp only [Instr.sliceAt, Instr.slice, Sem.run_bind, run_und ht, Result.andThen_ok, Option.isSome_none, Bool.false_eq_true, if_false, hr, Sem.run_pure, pure_bind]

theorem asliceL_sound {sz : Nat} {a : Option Addr} {len cap : Nat} {x : Value} {lo hi mx lo' hi' mx' : Option Value} {v : Value} (e : asliceL sz a len cap lo hi mx = some v) (hx : VR φ n (.slice a len cap) x) (hlo : OR φ n lo lo') (hhi : OR φ n hi hi') (hmx : OR φ n mx mx') :
    ∃ a' ccap l h m v', x = .slice a' len ccap ∧ (∀ b, (Instr.sliceBounds b len ccap lo' hi' mx').run P w = .ok (l, h, m) w) ∧
      v' = .slice (if m = l then a' else a'.map (·.add (l * sz))) (h - l) (m - l) ∧ VR φ n v v' := by
  unfold asliceL at e
  split at e
  · cases e
  · rename_i l h m e1
    rcases hx.slice_inv with ⟨rfl, rfl, rfl, rfl⟩ | ⟨b, off, sp, ca, ccap, rfl, rfl, hb, hle, hcc, hloc⟩
    · have hb := fun c => abounds_sound (P := P) (w := w) e1 hlo hhi hmx (Nat.le_refl _) c
      obtain ⟨_, h1, h2, h3, h4⟩ := hb true
      cases e
      refine ⟨none, 0, l, h, _, _, rfl, fun c => (hb c).1, rfl, ?_⟩
      have hm : m = 0 := by omega
      have hl : l = 0 := by omega
      have hh : h = 0 := by rcases h2 with h2 | ⟨_, h2⟩ <;> omega
      subst hm hl hh
      simp only [ite_self, Option.map_none, Nat.sub_self]
      exact .slice0
    · have hb' := fun c => abounds_sound (P := P) (w := w) e1 hlo hhi hmx hcc c
      obtain ⟨_, h1, h2, h3, h4⟩ := hb' true
      have hhm : h ≤ m := by
        rcases h2 with h2 | ⟨h5, h6⟩
        · exact h2
        · cases hmx with
          | none => have := h4 rfl; omega
          | some q => subst h5; cases hhi; unfold abounds at e1; simp at e1
      refine ⟨some ca, ccap, l, h, _, _, rfl, fun c => (hb' c).1, rfl, ?_⟩
      -- what the new slice is, in either way
      have key : ∀ (sp' : Option Nat) (mm : Nat), l ≤ mm → m ≤ mm → (∀ lc, φ b = some lc → ca = ⟨lc.block, lc.base + off, none⟩ → mm ≠ l → capOk sp' (m - l) (mm - l) (off + l * sz) lc) → (mm = ccap ∨ ccap ≠ 0 ∨ mm = 0) → m ≤ cap → (cap = 0 → ccap = 0 → mm = 0) →
          VR φ n (.slice (some ⟨b, off + l * sz, sp'⟩) (h - l) (m - l)) (.slice (if mm = l then some ca else (some ca).map (·.add (l * sz))) (h - l) (mm - l)) := by
        intro sp' mm hlm hmm hcap _ hmc hz
        by_cases hq : mm = l
        · rw [if_pos hq]
          exact .slice b _ sp' _ _ ca _ hb (by omega) (by omega) fun lc _ => .inr ⟨by omega, by omega⟩
        · rw [if_neg hq]
          refine .slice b _ sp' _ _ _ _ hb (by omega) (by omega) fun lc hlc => ?_
          rcases hloc lc hlc with ⟨rfl, _⟩ | ⟨c1, c2⟩
          · left
            refine ⟨?_, hcap lc hlc rfl hq⟩
            show (⟨lc.block, lc.base + off, none⟩ : Addr).add (l * sz) = _
            rw [Addr.add_lit, Nat.add_assoc]
          · have := hz c1 c2; exact absurd (show mm = l by omega) hq
      have hsize : ∀ lc, φ b = some lc → ca = ⟨lc.block, lc.base + off, none⟩ → ccap ≠ l → capOk sp cap ccap off lc := by
        intro lc hlc hca hne
        rcases hloc lc hlc with ⟨_, hc⟩ | ⟨c1, c2⟩
        · exact hc
        · exact absurd (show ccap = l by omega) hne
      cases hmx with
      | none =>
        have hm := h4 rfl
        simp only [Option.isSome_none, Bool.false_eq_true, if_false] at e ⊢
        cases sp with
        | none =>
          cases e
          refine key none ccap (by omega) (by omega) (fun lc hlc hca hne => ?_) (.inl rfl) h3 (fun _ c => c)
          have := hsize lc hlc hca hne
          simp only [capOk] at this ⊢
          omega
        | some k =>
          cases k with
          | zero =>
            cases e
            exact key (some 0) ccap (by omega) (by omega) (fun lc hlc hca hne => by simp [capOk]) (.inl rfl) h3 (fun _ c => c)
          | succ k =>
            simp only at e
            split at e
            · rename_i hk
              cases e
              refine key (some (k + 1)) ccap (by omega) (by omega) (fun lc hlc hca hne => ?_) (.inl rfl) h3 (fun _ c => c)
              have := hsize lc hlc hca hne
              simp only [capOk] at this ⊢
              rw [← this, hk]
              have h9 : l + (ccap - l) = ccap := by omega
              calc lc.base + (off + l * sz) + (ccap - l) * sz = lc.base + off + (l + (ccap - l)) * sz := by rw [Nat.add_mul]; omega
                _ = lc.base + off + ccap * sz := by rw [h9]
            · cases e
      | some q =>
        simp only [Option.isSome_some, if_true] at e ⊢
        have e2 : v = .slice (some ⟨b, off + l * sz, none⟩) (h - l) (m - l) := by
          cases sp with
          | none => cases e; rfl
          | some k => cases k <;> (cases e; rfl)
        subst e2
        exact key none m (by omega) (Nat.le_refl _) (fun lc hlc hca hne => by simp [capOk]) (by omega) h3 (fun c _ => by omega)

theorem aslice_sound {t : TypeId} {x cx : Value} {lo hi mx lo' hi' mx' : Option Value} {v : Value} (e : aslice P t x lo hi mx = some v) (hx : VR φ n x cx) (hlo : OR φ n lo lo') (hhi : OR φ n hi hi') (hmx : OR φ n mx mx') :
    ∃ v', (Instr.sliceAt t cx lo' hi' mx').run P w = .ok v' w ∧ VR φ n v v' := by
  unfold aslice at e
  split at e
  · rename_i s ht
    obtain rfl := hx.string_inv
    split at e
    · cases e
    · rename_i hm
      cases hmx with
      | none =>
        obtain ⟨h1, h2⟩ := asliceS_sound (P := P) (w := w) ht e hlo hhi
        exact ⟨v, h1, h2⟩
      | some q => simp at hm
  · rename_i el a len cap ht
    simp only [Option.bind_eq_some_iff] at e
    obtain ⟨sz, hz, e⟩ := e
    obtain ⟨a', ccap, l, h, m, v', rfl, hb, rfl, hv⟩ := asliceL_sound (P := P) (w := w) e hx hlo hhi hmx
    refine ⟨_, ?_, hv⟩
    simp only [Instr.sliceAt, Instr.slice, Sem.run_bind, run_und ht, Result.andThen_ok, hb true, run_tsz hz, Sem.run_pure]
  · rename_i k el b off ht
    simp only [Option.bind_eq_some_iff] at e
    obtain ⟨sz, hz, e⟩ := e
    obtain ⟨ca, rfl, hb, _, hloc⟩ := hx.ptr_inv
    have hx' : VR φ n (.slice (some ⟨b, off, none⟩) k k) (.slice (some ca) k k) := .slice b off none k k ca k hb (Nat.le_refl _) (Nat.le_refl _) fun l hl => .inl ⟨hloc l hl, rfl⟩
    obtain ⟨a', ccap, l, h, m, v', e1, hb, rfl, hv⟩ := asliceL_sound (P := P) (w := w) e hx' hlo hhi hmx
    cases e1
    refine ⟨_, ?_, hv⟩
    simp only [Instr.sliceAt, Instr.sureAddr, Sem.run_bind, run_und ht, Result.andThen_ok, hb false, run_tsz hz, Sem.run_pure, pure_bind]
    split <;> rfl
  · cases e

theorem afieldAddr_sound {s : TypeId} {x cx : Value} {f : Nat} {v : Value} (e : afieldAddr P s x f = some v) (hx : VR φ n x cx) : ∃ v', (Instr.fieldAt s cx f).run P w = .ok v' w ∧ VR φ n v v' := by
  unfold afieldAddr at e
  split at e
  · rename_i fs b off ht
    obtain ⟨ca, rfl, hb, _, hloc⟩ := hx.ptr_inv
    split at e
    · rename_i fd hfd
      split at e
      · rename_i k hz
        cases e
        refine ⟨.pointer (some (ca.add fd.offset)), ?_, .ptr _ _ _ hb fun l hl => by rw [hloc l hl, Addr.add_lit, Nat.add_assoc]⟩
        simp only [Instr.fieldAt, Instr.sureAddr, fieldPlace, Sem.run_bind, run_und ht, hfd, Result.andThen_ok, Sem.run_pure, pure_bind, run_tsz hz, Sem.run_ite]
        rw [if_neg (Nat.succ_ne_zero k)]; rfl
      · cases e
    · cases e
  · cases e
theorem afield_sound {s : TypeId} {x cx : Value} {f : Nat} {v : Value} (e : afield P s x f = some v) (hx : VR φ n x cx) : ∃ v', (Instr.field s cx f).run P w = .ok v' w ∧ VR φ n v v' := by
  unfold afield at e
  split at e
  · rename_i fs cs ht
    obtain ⟨cs', rfl, hc⟩ := hx.agg_inv
    split at e
    · rename_i fd hfd
      obtain ⟨v', hv', hr⟩ : ∃ v', apart P fd.type cs' fd.offset = some v' ∧ VR φ n v v' := by
        unfold apart at e ⊢
        split at e
        · simp only [Option.map_eq_some_iff] at e
          obtain ⟨m, hm, rfl⟩ := e
          have := CR.extract hc fd.offset (fd.offset + m)
          exact ⟨_, by rw [hm]; rfl, .agg _ _ this.1 this.2⟩
        · exact CR.at hc _ _ e
        · cases e
      refine ⟨v', ?_, hr⟩
      simp only [Instr.field, asAgg, Sem.run_bind, run_und ht, hfd, Result.andThen_ok, Sem.run_pure, pure_bind]
      exact apart_sound hv'
    · cases e
  · cases e
theorem apart_rel {t : TypeId} {cs cs' : Array Value} {off : Nat} {v : Value} (hc : CR φ n cs cs') (e : apart P t cs off = some v) : ∃ v', apart P t cs' off = some v' ∧ VR φ n v v' := by
  unfold apart at e ⊢
  split at e
  · simp only [Option.map_eq_some_iff] at e
    obtain ⟨m, hm, rfl⟩ := e
    have := CR.extract hc off (off + m)
    exact ⟨_, by rw [hm]; rfl, .agg _ _ this.1 this.2⟩
  · exact CR.at hc _ _ e
  · cases e

theorem aindexAddr_sound {t : TypeId} {x cx i ci : Value} {v : Value} (e : aindexAddr P t x i = some v) (hx : VR φ n x cx) (hi : VR φ n i ci) : ∃ v', (Instr.indexAt t cx ci).run P w = .ok v' w ∧ VR φ n v v' := by
  unfold aindexAddr at e
  split at e
  · rename_i len el b off k j ht
    obtain ⟨ca, rfl, hb, _, hloc⟩ := hx.ptr_inv
    obtain rfl := hi.int_inv
    split at e
    · rename_i hj
      simp only [Option.map_eq_some_iff] at e
      obtain ⟨sz, hz, rfl⟩ := e
      refine ⟨.pointer (some (ca.add (j.toNat * sz))), ?_, .ptr _ _ _ hb fun l hl => by rw [hloc l hl, Addr.add_lit, Nat.add_assoc]⟩
      simp only [Instr.indexAt, asIntOf, Instr.sureAddr, Sem.run_bind, run_und ht, Result.andThen_ok, Sem.run_pure, pure_bind, Sem.run_ite]
      rw [if_pos hj]
      simp only [Sem.run_bind, run_tsz hz, Result.andThen_ok, Sem.run_pure]
    · cases e
  · rename_i el b off sp len cap k j ht
    rcases hx.slice_inv with ⟨h0, _⟩ | ⟨b', off', sp', ca, ccap, h0, rfl, hb, hle, hcc, hloc⟩
    · cases h0
    · cases h0
      obtain rfl := hi.int_inv
      split at e
      · rename_i hj
        simp only [Option.map_eq_some_iff] at e
        obtain ⟨sz, hz, rfl⟩ := e
        refine ⟨.pointer (some (ca.add (j.toNat * sz))), ?_, .ptr _ _ _ hb fun l hl => ?_⟩
        · simp only [Instr.indexAt, asIntOf, Instr.sureAddr, Sem.run_bind, run_und ht, Result.andThen_ok, Sem.run_pure, pure_bind, Sem.run_ite]
          rw [if_pos hj]
          simp only [Sem.run_bind, run_tsz hz, Result.andThen_ok, Sem.run_pure]
        · rcases hloc l hl with ⟨rfl, _⟩ | ⟨c1, _⟩
          · rw [Addr.add_lit, Nat.add_assoc]
          · omega
      · cases e
  · cases e

theorem aindex_sound {t : TypeId} {x cx i ci : Value} {v : Value} (e : aindex P t x i = some v) (hx : VR φ n x cx) (hi : VR φ n i ci) : ∃ v', (Instr.index t cx ci).run P w = .ok v' w ∧ VR φ n v v' := by
  unfold aindex at e
  split at e
  · rename_i len el cs k j ht
    obtain ⟨cs', rfl, hc⟩ := hx.agg_inv
    obtain rfl := hi.int_inv
    split at e
    · rename_i hj
      simp only [Option.bind_eq_some_iff] at e
      obtain ⟨sz, hz, e⟩ := e
      obtain ⟨v', hv', hr⟩ := apart_rel hc e
      refine ⟨v', ?_, hr⟩
      simp only [Instr.index, asIntOf, Sem.run_bind, run_und ht, Result.andThen_ok, Sem.run_pure, pure_bind, Sem.run_ite]
      rw [if_pos hj]
      simp only [Sem.run_bind, run_tsz hz, Result.andThen_ok, Sem.run_pure]
      exact apart_sound hv'
    · cases e
  · rename_i s k j ht
    obtain rfl := hx.string_inv
    obtain rfl := hi.int_inv
    split at e
    · rename_i hj
      cases e
      refine ⟨_, ?_, .int _ _⟩
      have hlt : j.toNat < s.size := by omega
      have hs : s[j.toNat]? = some (s[j.toNat]'hlt) := getElem?_pos s _ hlt
      simp only [Instr.index, asIntOf, Sem.run_bind, run_und ht, Result.andThen_ok, Sem.run_pure, pure_bind, hj.1, if_true, hs, sbt, dif_pos hlt]
    · cases e
  · cases e
theorem aextract_sound {x cx : Value} {i : Nat} {v : Value} (e : aextract x i = some v) (hx : VR φ n x cx) : ∃ v', (Instr.extract cx i).run P w = .ok v' w ∧ VR φ n v v' := by
  unfold aextract at e
  split at e
  · obtain ⟨cs', rfl, hc⟩ := hx.tuple_inv
    obtain ⟨v', hv', hr⟩ := CR.at hc _ _ e
    exact ⟨v', by simp only [Instr.extract, hv', Sem.run_pure], hr⟩
  · cases e
theorem amkIface_sound {t : TypeId} {x cx : Value} {v : Value} (e : amkIface P t x = some v) (hx : VR φ n x cx) : ∃ v', (Instr.makeInterface t cx).run P w = .ok v' w ∧ VR φ n v v' := by
  unfold amkIface at e
  split at e
  · cases e
  · cases e
  · rename_i h1 h2
    cases e
    refine ⟨.iface t cx, ?_, .iface _ _ _ hx⟩
    cases hu : P.underlying t with
    | none => exact absurd hu h2
    | some d =>
      simp only [Instr.makeInterface, Sem.run_bind, run_und hu, Result.andThen_ok]
      cases d <;> first | rfl | (exact absurd hu (h1 _))
theorem aassert_sound {x cx : Value} {t xt : TypeId} {ok : Bool} {v : Value} (e : aassert P x t ok = some v) (hx : VR φ n x cx) : ∃ v', (Instr.typeAssert cx xt t ok).run P w = .ok v' w ∧ VR φ n v v' := by
  have tup : ∀ (a b : Value) (c : Bool), VR φ n a b → VR φ n (.tuple #[a, .bool c]) (.tuple #[b, .bool c]) := fun a b c h => by
    have := (CR.one h).push (VR.bool (φ := φ) (n := n) c)
    exact .tuple _ _ this.1 this.2
  unfold aassert at e
  split at e
  · cases e
  · rename_i d h1 hd
    obtain rfl := hx.nilIface_inv
    split at e
    · rename_i hok
      subst hok
      simp only [Option.map_eq_some_iff] at e
      obtain ⟨z, hz, rfl⟩ := e
      obtain ⟨hr, hp⟩ := run_tzero (P := P) (w := w) hz
      refine ⟨.tuple #[z, .bool false], ?_, tup _ _ _ (VR.plain hp)⟩
      simp only [Instr.typeAssert, Sem.run_bind, run_und hd, Result.andThen_ok]
      cases d <;> first | (exact absurd hd (h1 _)) | (simp only [if_true, Sem.run_bind, hr, Result.andThen_ok, Sem.run_pure])
    · cases e
  · rename_i d u y h1 hd
    obtain ⟨y', rfl, hy⟩ := hx.iface_inv
    split at e
    · rename_i hu
      subst hu
      cases e
      cases ok with
      | true =>
        refine ⟨.tuple #[y', .bool true], ?_, tup _ _ _ hy⟩
        simp only [Instr.typeAssert, Sem.run_bind, run_und hd, Result.andThen_ok]
        cases d <;> first | (exact absurd hd (h1 _)) | (simp only [if_true, Sem.run_pure])
      | false =>
        refine ⟨y', ?_, hy⟩
        simp only [Instr.typeAssert, Sem.run_bind, run_und hd, Result.andThen_ok]
        cases d <;> first | (exact absurd hd (h1 _)) | (simp only [if_true, Sem.run_pure]; rfl)
    · rename_i hu
      split at e
      · rename_i hok
        subst hok
        simp only [Option.map_eq_some_iff] at e
        obtain ⟨z, hz, rfl⟩ := e
        obtain ⟨hr, hp⟩ := run_tzero (P := P) (w := w) hz
        refine ⟨.tuple #[z, .bool false], ?_, tup _ _ _ (VR.plain hp)⟩
        simp only [Instr.typeAssert, Sem.run_bind, run_und hd, Result.andThen_ok]
        cases d <;> first | (exact absurd hd (h1 _)) | (simp only [if_neg hu, if_true, Sem.run_bind, hr, Result.andThen_ok, Sem.run_pure])
      · cases e
  · cases e
end
end Go.Fw
