/- The statement WireLists: what a round reads, the lists that are handed out but not yet kept. -/
import Derived.Test.YtbgfoobcpacfeaaDoorPk8
import Derived.Test.YtbgfoobcpacfeaaDoorBkKeep
import Derived.Test.YtbgfoobcpacfeaaDoorWPl4
import Derived.Test.YtbgfoobcpacfeaaDoorWPf
namespace Go.Proofs.YtbgfoobcpacfeaaDoor
open Go.RowKit
set_option maxRecDepth 100000
set_option linter.unusedVariables false
set_option linter.unusedSimpArgs false

/-- A slice of packets that reads as the list. -/
def SlPk (w : World) (v : Value) (P : List Wi.Pk) : Prop :=
  ∃ q c, v = .slice q P.length c ∧ P.length ≤ 9223372036854775807 ∧ ∀ (i : Nat) (p : Wi.Pk), P[i]? = some p → ∃ g o pv, q = some ⟨g, o, none⟩ ∧ g < w.heap.size ∧ p.Ok ∧ RB w pv p.data ∧ w.rangeAt g (o + i * 43) (pkL p pv)
/-- A slice of frames that reads as the list. -/
def SlFr (w : World) (v : Value) (F : List Wi.Fr) : Prop :=
  ∃ q c, v = .slice q F.length c ∧ F.length ≤ 9223372036854775807 ∧ ∀ (i : Nat) (x : Wi.Fr), F[i]? = some x → ∃ g o pv, q = some ⟨g, o, none⟩ ∧ g < w.heap.size ∧ x.Ok ∧ RB w pv x.pay ∧ w.rangeAt g (o + i * 6) (frameC x pv).toList
theorem range_below {w w' : World} {g o : Nat} {cs : List Value} (hg : g < w.heap.size) (h : w.rangeAt g o cs) (hb : Below w.heap.size w w') : w'.rangeAt g o cs := fun j u hu => ((bcell hb).1 g _ hg).trans (h j u hu)
theorem SlPk.below {w w' : World} {v : Value} {P : List Wi.Pk} (h : SlPk w v P) (hb : Below w.heap.size w w') : SlPk w' v P := by
  obtain ⟨q, c, e, hl, hr⟩ := h
  refine ⟨q, c, e, hl, fun i p hp => ?_⟩
  obtain ⟨g, o, pv, h1, h2, h3, h4, h5⟩ := hr i p hp
  exact ⟨g, o, pv, h1, Nat.lt_of_lt_of_le h2 hb.size, h3, h4.below hb, range_below h2 h5 hb⟩
theorem SlFr.below {w w' : World} {v : Value} {F : List Wi.Fr} (h : SlFr w v F) (hb : Below w.heap.size w w') : SlFr w' v F := by
  obtain ⟨q, c, e, hl, hr⟩ := h
  refine ⟨q, c, e, hl, fun i p hp => ?_⟩
  obtain ⟨g, o, pv, h1, h2, h3, h4, h5⟩ := hr i p hp
  exact ⟨g, o, pv, h1, Nat.lt_of_lt_of_le h2 hb.size, h3, h4.below hb, range_below h2 h5 hb⟩
theorem idx_pk (w : World) (g o n c i : Nat) (hi : i < n) : (Instr.indexAt 60 (.slice (some ⟨g, o, none⟩) n c) (.int .i64 i)).run Tryd.prog w = .ok (.pointer (some ⟨g, o + i * 43, none⟩)) w := by
  have h1 : (i : Int) < (n : Int) := by omega
  have h0 : (0 : Int) ≤ (i : Int) := Int.natCast_nonneg i
  go_simp
theorem idx_fr (w : World) (g o n c i : Nat) (hi : i < n) : (Instr.indexAt 61 (.slice (some ⟨g, o, none⟩) n c) (.int .i64 i)).run Tryd.prog w = .ok (.pointer (some ⟨g, o + i * 6, none⟩)) w := by
  have h1 : (i : Int) < (n : Int) := by omega
  have h0 : (0 : Int) ≤ (i : Int) := Int.natCast_nonneg i
  go_simp
theorem load_pk_at {w : World} {g o : Nat} {p : Wi.Pk} {v : Value} (h : w.rangeAt g o (pkL p v)) (hp : p.Ok) : (Instr.loadAt 34 (.pointer (some ⟨g, o, none⟩))).run Tryd.prog w = .ok (.agg (pkL p v).toArray) w :=
  run_loadAt_mid w g o _ (pkL p v) _ h pk_t rfl (by rw [pk_i, pkL_length hp])
theorem fr_t : Tryd.prog.underlying 50 = some (.struct (Tryd.prog.fieldsOf 50)) := by kernel_rfl
theorem fr_i : (Tryd.prog.info? 50).map (·.size) = some 6 := by kernel_rfl
/-- A frame lies there. -/
def FrAt (w : World) (b : Nat) (x : Wi.Fr) (v : Value) : Prop := w.heap[b]? = some (.cells (frameC x v) 50 (0, 0))
theorem FrAt.below {w w' : World} {b : Nat} {x : Wi.Fr} {v : Value} (h : FrAt w b x v) (hb : Below w.heap.size w w') : FrAt w' b x v := blk_below h hb
theorem FrAt.lt {w : World} {b : Nat} {x : Wi.Fr} {v : Value} (h : FrAt w b x v) : b < w.heap.size := heap_lt h
theorem load_fr_at {w : World} {g o : Nat} {x : Wi.Fr} {v : Value} (h : w.rangeAt g o (frameC x v).toList) : (Instr.loadAt 50 (.pointer (some ⟨g, o, none⟩))).run Tryd.prog w = .ok (.agg (frameC x v)) w :=
  run_loadAt_mid w g o _ (frameC x v).toList _ h fr_t rfl (by rw [fr_i]; rfl)
theorem load_fr {w : World} {b : Nat} {x : Wi.Fr} {v : Value} (h : FrAt w b x v) : (Instr.loadAt 50 (.pointer (some ⟨b, 0, none⟩))).run Tryd.prog w = .ok (.agg (frameC x v)) w :=
  load_fr_at (fun j u hu => by rw [Nat.zero_add, has_cell h]; simpa using hu)
theorem alloc_fr {ρ : Operand → Value} {o : Oper} (ho : o.op = .alloc 50) (w : World) : (execOp ρ o).run Tryd.prog w = .ok (.value (.pointer (some ⟨w.heap.size, 0, none⟩))) (w.alloc (.cells (frameC Wi.zero (.slice none 0 0)) 50)) := by
  unfold execOp
  rw [ho]
  kernel_rfl
theorem frL_one (x : Wi.Fr) (v : Value) (hv : v.oneCell' = true) : ∀ u ∈ (frameC x v).toList, u.oneCell' = true := by
  intro u hu
  simp only [List.mem_cons, List.not_mem_nil, or_false] at hu
  rcases hu with rfl | rfl | rfl | rfl | rfl | rfl
  all_goals first | rfl | exact hv
theorem set_fr (x y : Wi.Fr) (u v : Value) : setAll (frameC y u).toList 0 (frameC x v).toList = (frameC x v).toList := rfl
theorem ld_fpay {w : World} {b : Nat} {x : Wi.Fr} {v : Value} (h : FrAt w b x v) {l : List UInt8} (hr : RB w v l) : (Instr.loadAt 32 (.pointer (some ⟨b, 5, none⟩))).run Tryd.prog w = .ok v w := by
  obtain ⟨dp, dc, e⟩ := hr.form
  have hc : w.cell? ⟨b, 5, none⟩ = some v := (has_cell h 5).trans rfl
  rw [e] at hc ⊢
  go_simp
theorem ld_pdat {w : World} {b : Nat} {p : Wi.Pk} {pv : Value} (hP : PkAt w b p pv) (hp : p.Ok) {l : List UInt8} (hr : RB w pv l) : (Instr.loadAt 32 (.pointer (some ⟨b, 42, none⟩))).run Tryd.prog w = .ok pv w := by
  obtain ⟨dp, dc, e⟩ := hr.form
  have hc := hP.cd hp
  rw [e] at hc ⊢
  go_simp
/-- A list that was handed out and not yet kept: it lies in a block of its own tag. -/
structure Pend (own : Nat → Nat) (B : Nat) (w : World) (x : Value) (l : List UInt8) (t : Nat) : Prop where
  ob : OB B w x l
  len : l.length ≤ 1099511627776
  tag : ∀ k, x.ownBlock = some k → own k = t
section
variable {w w' : World} {own own' : Nat → Nat} {x : Value} {l : List UInt8} {p t B r : Nat} {Lf Lk : List (List UInt8)}
theorem skeep_ne {p t : Nat} (ht : 20 ≤ t) (hne : t ≠ p) : SKeep p t = false := by
  simp only [SKeep, Bool.or_eq_false_iff, Bool.and_eq_false_iff, decide_eq_false_iff_not, beq_eq_false_iff_ne]
  omega
theorem skeep_zero {p : Nat} (hp : 20 ≤ p) : SKeep p 0 = false := by
  simp only [SKeep, Bool.or_eq_false_iff, Bool.and_eq_false_iff, decide_eq_false_iff_not, beq_eq_false_iff_ne]
  omega
theorem Pend.keep (h : Pend own B w x l t) (hC : Chg own (SKeep p) w w') (hag : ∀ k, k < w.heap.size → SKeep p (own k) = false → own' k = own k) (ht : 20 ≤ t) (hne : t ≠ p) : Pend own' B w' x l t :=
  ⟨h.ob.chg hC (fun k e => by rw [h.tag k e]; exact skeep_ne ht hne), h.len, fun k e => (hag k (h.ob.lt k e).2 (by rw [h.tag k e]; exact skeep_ne ht hne)).trans (h.tag k e)⟩
theorem BkS.chg (h : BkS w r B own Lf Lk) (hb : Below w.heap.size w w') : BkS w' r B own Lf Lk := by
  obtain ⟨v, V, m, h1, h2, h3, h4, h5, h6⟩ := h
  have hc : Chg own (fun _ => false) w w' := Chg.below hb
  exact ⟨v, V, m, h1.chg hc (fun _ _ _ => rfl), h2.chg hc (fun _ _ _ => rfl) (by omega), h3.chg hc rfl, h4.chg hc rfl, h5.chg hc rfl, h6⟩
theorem BkS.retag (h : BkS w r B own Lf Lk) (he : ∀ k, k < w.heap.size → own' k = own k) : BkS w r B own' Lf Lk := by
  obtain ⟨v, V, m, h1, h2, h3, h4, h5, h6⟩ := h
  exact ⟨v, V, m, h1.retag he, h2.retag (fun k hk _ _ => he k hk) (by omega), h3.retag (fun k hk h9 => (he k hk).trans h9), h4.retag (fun k hk h9 => (he k hk).trans h9), h5.retag (fun k hk h9 => (he k hk).trans h9), h6⟩
theorem BkS.lt (h : BkS w r B own Lf Lk) : r < w.heap.size := by obtain ⟨v, V, m, h1, _⟩ := h; exact h1.lt
theorem BkS.holds (h : BkS w r B own Lf Lk) : Pur Tryd.prog 37 #[.pointer (some ⟨r, 0, none⟩)] w (.bool true) := by
  obtain ⟨v, V, m, h1, h2, h3, h4, h5, h6⟩ := h
  exact bholds_calls h1 (Alike.of_fresh h2 h3) (Alike.of_settled h4 h5)
theorem PkAt.chg {b : Nat} {q : Wi.Pk} {u : Value} {S : Nat → Bool} (h : PkAt w b q u) (hC : Chg own S w w') (hs : S (own b) = false) : PkAt w' b q u := blk_chg h hC hs
theorem FrAt.chg {b : Nat} {q : Wi.Fr} {u : Value} {S : Nat → Bool} (h : FrAt w b q u) (hC : Chg own S w w') (hs : S (own b) = false) : FrAt w' b q u := blk_chg h hC hs
end
/-- The tags of six lists that were made one behind the other. -/
def own6 (own : Nat → Nat) (a b c d e f : Nat) : Nat → Nat := fun k => if k < a then own k else if k < b then 20 else if k < c then 21 else if k < d then 22 else if k < e then 23 else if k < f then 24 else 25
section
variable {own : Nat → Nat} {a b c d e f k : Nat}
theorem own6_old (h : k < a) : own6 own a b c d e f k = own k := by unfold own6; rw [if_pos h]
theorem own6_20 (h : a ≤ k) (h' : k < b) : own6 own a b c d e f k = 20 := by unfold own6; rw [if_neg (by omega), if_pos h']
theorem own6_21 (h : a ≤ k) (h1 : b ≤ k) (h' : k < c) : own6 own a b c d e f k = 21 := by unfold own6; rw [if_neg (by omega), if_neg (by omega), if_pos h']
theorem own6_22 (h : a ≤ k) (h1 : b ≤ k) (h2 : c ≤ k) (h' : k < d) : own6 own a b c d e f k = 22 := by unfold own6; rw [if_neg (by omega), if_neg (by omega), if_neg (by omega), if_pos h']
theorem own6_23 (h : a ≤ k) (h1 : b ≤ k) (h2 : c ≤ k) (h3 : d ≤ k) (h' : k < e) : own6 own a b c d e f k = 23 := by unfold own6; rw [if_neg (by omega), if_neg (by omega), if_neg (by omega), if_neg (by omega), if_pos h']
theorem own6_24 (h : a ≤ k) (h1 : b ≤ k) (h2 : c ≤ k) (h3 : d ≤ k) (h4 : e ≤ k) (h' : k < f) : own6 own a b c d e f k = 24 := by unfold own6; rw [if_neg (by omega), if_neg (by omega), if_neg (by omega), if_neg (by omega), if_neg (by omega), if_pos h']
theorem own6_25 (h : a ≤ k) (h1 : b ≤ k) (h2 : c ≤ k) (h3 : d ≤ k) (h4 : e ≤ k) (h5 : f ≤ k) : own6 own a b c d e f k = 25 := by unfold own6; rw [if_neg (by omega), if_neg (by omega), if_neg (by omega), if_neg (by omega), if_neg (by omega), if_neg (by omega)]
end
namespace Wi
theorem data_small {p : Pk} (h : packErr p = 0) : p.data.length ≤ 1024 := by
  obtain ⟨hk, hok, _, hd⟩ := packErr_ok h
  cases hh : holdsD (fieldsOf p.cmd) with
  | false => rw [hd hh]; exact Nat.zero_le _
  | true =>
    unfold holdsD at hh
    obtain ⟨x, hx, hxd⟩ := List.any_eq_true.1 hh
    cases x with
    | num k f => cases hxd
    | gens => cases hxd
    | sum f => cases hxd
    | dat f =>
      have h1 := hok _ hx
      have h2 := ((fields_good hk).2 _ hx).2
      exact dat_small (f := f) (p := p) (by simpa [datOk] using h2) h1
theorem out_small {p : Pk} (hp : p.Ok) : (packOut p).length ≤ 1187 := by
  unfold packOut
  split
  · rename_i h; exact packed_small hp h
  · exact Nat.zero_le _
theorem back {p : Pk} (hp : p.Ok) : (unpack (packOut p)).1.data.length ≤ 1024 ∧ (packErr p = 0 → unpack (packOut p) = (p, 0, 0)) := by
  by_cases h : packErr p = 0
  · have e : unpack (packOut p) = (p, 0, 0) := by unfold packOut; rw [if_pos h]; exact unpack_packed hp h
    exact ⟨by rw [e]; exact data_small h, fun _ => e⟩
  · have e : packOut p = [] := by unfold packOut; rw [if_neg h]
    exact ⟨by rw [e]; exact Nat.zero_le _, fun h' => absurd h' h⟩
theorem pay_small {x : Fr} (h : encErr x = 0) : x.pay.length ≤ 2048 := by
  unfold encErr at h
  split at h
  · split at h
    · rename_i hc
      unfold carries at hc
      simp only [Bool.and_eq_true, decide_eq_true_eq] at hc
      exact hc.2
    · cases h
  · cases h
theorem fout_small {x : Fr} (hx : x.Ok) : (encOut x).length ≤ 2074 := by
  by_cases h : encErr x = 0
  · obtain ⟨_, _, h3, h4⟩ := dec_enc hx h
    rw [h3, h4]
    have := pay_small h
    omega
  · rw [encOut_err h]; exact Nat.zero_le _
theorem fback {x : Fr} (hx : x.Ok) : (decFr (encOut x)).pay.length ≤ 2048 ∧ (encErr x = 0 → decFr (encOut x) = x ∧ decErr (encOut x) = 0) := by
  by_cases h : encErr x = 0
  · obtain ⟨h1, h2, h3, h4⟩ := dec_enc hx h
    exact ⟨by rw [h3, h2]; exact pay_small h, fun _ => by rw [h3]; exact ⟨h2, h1⟩⟩
  · rw [encOut_err h]
    exact ⟨Nat.zero_le _, fun h' => absurd h' h⟩
end Wi
end Go.Proofs.YtbgfoobcpacfeaaDoor
