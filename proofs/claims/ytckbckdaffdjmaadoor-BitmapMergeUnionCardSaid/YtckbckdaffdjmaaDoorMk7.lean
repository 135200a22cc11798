/- Walks and plain laws of the packets and frames, joined from: OpU, StpU, NwM, PaA, InU, TlA, TlC, TlD, TlB, TlE, AcU, BfU, RuU, UnU. -/
import Derived.Test.YtckbckdaffdjmaaDoorMk6
import Derived.Sort.AtCall
/- The law's scripts: slices of Op. -/
namespace Go.Proofs.YtckbckdaffdjmaaDoor
open Go.RowKit
set_option maxRecDepth 100000
set_option linter.unusedVariables false
set_option linter.unusedSimpArgs false

/-- One call of a script. -/
structure OpV where
  kind : Int
  second : Bool
  a : Int
  b : Int
  words : List UInt64
  wv : Value
  bv : Value
  av : Value
  again : Bool
def opL (o : OpV) : List Value := [.int .i64 o.kind, .bool o.second, .int .i64 o.a, .int .i64 o.b, o.wv, o.bv, o.av, .bool o.again]
/-- One act: its kind and its two numbers. -/
structure AcV where
  kind : Int
  a : Int
  b : Int
def acL (x : AcV) : List Value := [.int .i64 x.kind, .int .i64 x.a, .int .i64 x.b]
structure OkAc (x : AcV) : Prop where
  kw : (Lit.int .i64 x.kind).wf = true
  aw : (Lit.int .i64 x.a).wf = true
  bw : (Lit.int .i64 x.b).wf = true
/-- A slice of acts. -/
def SlAc (w : World) (v : Value) (l : List AcV) : Prop :=
  ∃ q c, v = .slice q l.length c ∧ l.length ≤ 17592186043904 ∧ ∀ (i : Nat) (x : AcV), l[i]? = some x → ∃ g off, q = some ⟨g, off, none⟩ ∧ g < w.heap.size ∧ OkAc x ∧ w.rangeAt g (off + i * 3) (acL x)
theorem SlAc.below {w w' : World} {v : Value} {l : List AcV} (h : SlAc w v l) (hb : Below w.heap.size w w') : SlAc w' v l := by
  obtain ⟨q, c, e, hl, hr⟩ := h
  refine ⟨q, c, e, hl, fun i o ho => ?_⟩
  obtain ⟨g, off, h1, h2, h3, h4⟩ := hr i o ho
  exact ⟨g, off, h1, Nat.lt_of_lt_of_le h2 hb.size, h3, fun j u hu => ((bcell hb).1 g _ h2).trans (h4 j u hu)⟩
structure OkOp (w : World) (o : OpV) : Prop where
  kw : (Lit.int .i64 o.kind).wf = true
  aw : (Lit.int .i64 o.a).wf = true
  bw : (Lit.int .i64 o.b).wf = true
  words : RU w o.wv o.words
  len : o.words.length ≤ 17592186043904
  bone : o.bv.oneCell' = true
  aone : o.av.oneCell' = true
  before : ∃ l, SlAc w o.bv l
  acts : ∃ l, SlAc w o.av l
theorem OkOp.below {w w' : World} {o : OpV} (h : OkOp w o) (hb : Below w.heap.size w w') : OkOp w' o := ⟨h.kw, h.aw, h.bw, h.words.below hb, h.len, h.bone, h.aone, h.before.imp fun _ k => k.below hb, h.acts.imp fun _ k => k.below hb⟩
/-- A slice of calls. -/
def SlOp (w : World) (v : Value) (l : List OpV) : Prop :=
  ∃ q c, v = .slice q l.length c ∧ l.length ≤ 1256584717715 ∧ ∀ (i : Nat) (o : OpV), l[i]? = some o → ∃ g off, q = some ⟨g, off, none⟩ ∧ g < w.heap.size ∧ OkOp w o ∧ w.rangeAt g (off + i * 8) (opL o)
theorem SlOp.below {w w' : World} {v : Value} {l : List OpV} (h : SlOp w v l) (hb : Below w.heap.size w w') : SlOp w' v l := by
  obtain ⟨q, c, e, hl, hr⟩ := h
  refine ⟨q, c, e, hl, fun i o ho => ?_⟩
  obtain ⟨g, off, h1, h2, h3, h4⟩ := hr i o ho
  exact ⟨g, off, h1, Nat.lt_of_lt_of_le h2 hb.size, h3.below hb, fun j u hu => ((bcell hb).1 g _ h2).trans (h4 j u hu)⟩
theorem opt : Tryd.prog.underlying 39 = some (.struct (Tryd.prog.fieldsOf 39)) := by kernel_rfl
theorem opi : (Tryd.prog.info? 39).map (·.size) = some 8 := by kernel_rfl
theorem load_op {w : World} {g off : Nat} {o : OpV} (h : w.rangeAt g off (opL o)) : (Instr.loadAt 39 (.pointer (some ⟨g, off, none⟩))).run Tryd.prog w = .ok (.agg (opL o).toArray) w :=
  run_loadAt_mid w g off _ (opL o) _ h opt rfl (by rw [opi]; rfl)
theorem load_opA {w : World} {b : Nat} {o : OpV} (h : Rw w b 39 (opL o)) : (Instr.loadAt 39 (.pointer (some ⟨b, 0, none⟩))).run Tryd.prog w = .ok (.agg (opL o).toArray) w :=
  load_op fun j u hu => by rw [Nat.zero_add]; exact h.cell hu
theorem idx_op (w : World) (g o n c i : Nat) (hi : i < n) : (Instr.indexAt 49 (.slice (some ⟨g, o, none⟩) n c) (.int .i64 i)).run Tryd.prog w = .ok (.pointer (some ⟨g, o + i * 8, none⟩)) w := by
  have h1 : (i : Int) < (n : Int) := by omega
  have h0 : (0 : Int) ≤ (i : Int) := Int.natCast_nonneg i
  go_simp
def opZ : List Value := [.int .i64 0, .bool false, .int .i64 0, .int .i64 0, .slice none 0 0, .slice none 0 0, .slice none 0 0, .bool false]
theorem alloc_op {ρ : Operand → Value} {o : Oper} (ho : o.op = .alloc 39) (w : World) : (execOp ρ o).run Tryd.prog w = .ok (.value (.pointer (some ⟨w.heap.size, 0, none⟩))) (w.alloc (.cells opZ.toArray 39)) := by
  unfold execOp
  rw [ho]
  kernel_rfl
theorem exec_idx {P : Program} {ρ : Operand → Value} {o : Oper} {x y : Operand} {t : TypeId} {w : World} {v : Value} (ho : o.op = .indexAddr t x y) (h : (Instr.indexAt t (ρ x) (ρ y)).run P w = .ok v w) : (execOp ρ o).run P w = .ok (.value v) w := by
  unfold execOp
  rw [ho]
  simp [h]
theorem opL_one {w : World} {o : OpV} (h : OkOp w o) : ∀ u ∈ opL o, u.oneCell' = true := by
  obtain ⟨p, c, e⟩ := h.words.form
  intro u hu
  simp only [opL, List.mem_cons, List.not_mem_nil, or_false] at hu
  rcases hu with rfl | rfl | rfl | rfl | rfl | rfl | rfl | rfl
  all_goals first | rfl | exact h.bone | exact h.aone | (rw [e]; rfl)
/-- The call's own copy. -/
theorem op_copy {w : World} {o : OpV} (h : OkOp w o) : ∃ w', w' = (w.alloc (.cells opZ.toArray 39)).setCells w.heap.size 0 (opL o) ∧ Rw w' w.heap.size 39 (opL o) ∧ Below w.heap.size w w' := by
  refine ⟨_, rfl, setCells_heap (opL o) 0 _ opZ (heap_new _ _ _ rfl), ?_⟩
  exact (below_alloc1 w _).grown (setCells_grown _ w.heap.size 0 _) (by simp) (fun k hk => by injection hk with hk; omega)
end Go.Proofs.YtckbckdaffdjmaaDoor

/- One call of the script: step. -/
namespace Go.Proofs.YtckbckdaffdjmaaDoor
open Go.RowKit
set_option maxRecDepth 100000
set_option linter.unusedVariables false
set_option linter.unusedSimpArgs false

section
variable {w : World} {P p bw ba r bb b n N : Nat} {W : List UInt64} {own : Nat → Prop} {late : Bool}
theorem AskP.chg {e : Ending} {w' : World} (h : PrB w P p bw ba r bb b n W own late N) (ha : AskP w b own late N e w') : ChgP w P p bw ba r bb b n N own late e w' := by
  obtain ⟨he, own', h1, h2, h3⟩ := ha
  exact ⟨he, own', W, ⟨h.pr.mod h3 fun k hk => h.no k hk, h1, fun k hk e => h.no k hk ((h2 k (h.pr.lt k hk)).1 e)⟩, h2, h3.mono fun _ _ e => .inl e⟩
theorem ChgP.from_ {e : Ending} {w0 w' : World} (hb : Below w.heap.size w w0) (h : ChgP w0 P p bw ba r bb b n N own late e w') : ChgP w P p bw ba r bb b n N own late e w' := by
  obtain ⟨he, own', W', h1, h2, h3⟩ := h
  exact ⟨he, own', W', h1, fun k hk => h2 k (Nat.lt_of_lt_of_le hk hb.size), (Mod.of_below hb).trans h3⟩
set_option maxHeartbeats 8000000 in
theorem ask_none (h : PrB w P p bw ba r bb b n W own late N) (s2 wv bf ac ag A B : Value) {k : Int} (hk : k < 6 ∨ 13 < k) :
    Calls Tryd.prog 18 #[.pointer (some ⟨P, 0, none⟩), .agg #[.int .i64 k, s2, A, B, wv, bf, ac, ag]] w (AskP w b own late N) := by
  obtain ⟨w0, D, hw0, hD, hrd, hb0⟩ := boxedOp w [.int .i64 k, s2, A, B, wv, bf, ac, ag]
  have HH := Lib.hid h
  have HB0 := Lib.hid hb0
  have cd0 := hrd.cell (i := 0) rfl
  have k6 : k ≠ 6 := by omega
  have k7 : k ≠ 7 := by omega
  have k8 : k ≠ 8 := by omega
  have k9 : k ≠ 9 := by omega
  have k10 : k ≠ 10 := by omega
  have k11 : k ≠ 11 := by omega
  have k12 : k ≠ 12 := by omega
  have k13 : k ≠ 13 := by omega
  clear hk
  go_enter Tryd.func18, Tryd.ntmps18
  go_upto_region 1 with fail
  rw [← hw0, ← hD]
  clear h hrd hw0 hD hb0
  go_wp2_with fail
  go_ret
  exact AskP.pure HH.out.bk HB0.out
theorem change_any (hK : KeepC late) (hN : N + 2 ≤ 5864062014805) (h : PrB w P p bw ba r bb b n W own late N) {o : OpV} (ho : OkOp w o) (hne : o.words ≠ [] → ∀ g, o.wv.ownBlock = some g → ¬ Pr.At P p bw ba r bb g) :
    Calls Tryd.prog 81 #[.pointer (some ⟨P, 0, none⟩), .agg (opL o).toArray] w (ChgP w P p bw ba r bb b n N own late) := by
  obtain ⟨k, s, a, c, V, wv, bv, av, g⟩ := o
  obtain ⟨h1, h2, h3, h4, h5, h6, h7⟩ := ho
  simp only [opL] at *
  by_cases e1 : k = 1
  · subst e1; exact chg_set h _ _ _ _ _ h2 h3
  by_cases e2 : k = 2
  · subst e2; exact chg_clear h _ _ _ _ _ h2 h3
  by_cases e3 : k = 3
  · subst e3; exact chg_setrange h _ _ _ _ _ h2 h3
  by_cases e4 : k = 4
  · subst e4; exact chg_clearrange h _ _ _ _ _ h2 h3
  by_cases e5 : k = 5
  · subst e5; exact chg_merge hK hN h _ _ _ _ _ _ h4 h5 hne
  exact chg_none h _ _ _ _ _ _ _ e1 e2 e3 e4 e5
theorem ask_any (hK : KeepC late) (hN : N + 2 ≤ 5864062014805) (h : PrB w P p bw ba r bb b n W own late N) (hT : Tz w) {o : OpV} (ho : OkOp w o) :
    Calls Tryd.prog 18 #[.pointer (some ⟨P, 0, none⟩), .agg (opL o).toArray] w (AskP w b own late N) := by
  obtain ⟨k, s, a, c, V, wv, bv, av, g⟩ := o
  obtain ⟨h1, h2, h3, h4, h5, h6, h7⟩ := ho
  simp only [opL] at *
  by_cases e : k < 6 ∨ 13 < k
  · exact ask_none h _ _ _ _ _ _ _ e
  by_cases e6 : k = 6
  · subst e6; exact ask_test h _ _ _ _ _ h2 h3
  by_cases e7 : k = 7
  · subst e7; exact ask_count h _ _ _ _ _ _ _
  by_cases e8 : k = 8
  · subst e8; exact ask_countrange h _ _ _ _ _ h2 h3
  by_cases e9 : k = 9
  · subst e9; exact ask_next h hT _ _ _ _ _ h2 h3
  by_cases e10 : k = 10
  · subst e10; exact ask_nextclear h hT _ _ _ _ _ h2 h3
  by_cases e11 : k = 11
  · subst e11; exact ask_len h _ _ _ _ _ _ _
  by_cases e12 : k = 12
  · subst e12; exact ask_words hK hN h _ _ _ _ _ _ _
  have e13 : k = 13 := by omega
  subst e13; exact ask_summary hK hN h _ _ _ _ _ _ _
set_option maxHeartbeats 8000000 in
theorem step_calls (hK : KeepC late) (hN : N + 2 ≤ 5864062014805) (h : PrB w P p bw ba r bb b n W own late N) (hT : Tz w) {o : OpV} (ho : OkOp w o) (hne : o.words ≠ [] → ∀ g, o.wv.ownBlock = some g → ¬ Pr.At P p bw ba r bb g) :
    Calls Tryd.prog 42 #[.pointer (some ⟨P, 0, none⟩), .agg (opL o).toArray] w (ChgP w P p bw ba r bb b n N own late) := by
  obtain ⟨w0, D, hw0, hD, hrd, hb0⟩ := boxedOp w (opL o)
  have HH := Lib.hid (h.below hb0)
  have HB0 := Lib.hid hb0
  have hc := change_any hK hN (h.below hb0) (ho.below hb0) hne
  have ha := (ask_any hK hN (h.below hb0) (hT.below hb0) (ho.below hb0))
  have HC := Lib.hid hc
  have HA := Lib.hid ha
  have c0 := hrd.cell (i := 0) rfl
  have c1 := hrd.cell (i := 1) rfl
  have c2 := hrd.cell (i := 2) rfl
  have c3 := hrd.cell (i := 3) rfl
  have c4 := hrd.cell (i := 4) rfl
  have c5 := hrd.cell (i := 5) rfl
  have c6 := hrd.cell (i := 6) rfl
  have c7 := hrd.cell (i := 7) rfl
  rw [show (opL o).toArray = #[.int .i64 o.kind, .bool o.second, .int .i64 o.a, .int .i64 o.b, o.wv, o.bv, o.av, .bool o.again] from rfl] at hw0 ⊢
  go_enter Tryd.func42, Tryd.ntmps42
  go_upto_region 1 with fail
  rw [← hw0, ← hD]
  clear h hrd hw0 hD hb0 hc ha hK hN hT ho hne
  cases hk : decide (o.kind ≤ 5)
  · have hk' : ¬ o.kind ≤ 5 := by simpa using hk
    clear hk
    go_wp2_with (first
      | (go_at_call 18
         refine HA.out.mono ?_
         rintro e w1 h1
         have he := h1.1
         subst he
         have H1 := Lib.hid h1
         clear h1)
      | fail)
    go_ret
    exact (AskP.chg HH.out H1.out).from_ HB0.out
  · have hk' : o.kind ≤ 5 := by simpa using hk
    clear hk
    go_wp2_with (first
      | (go_at_call 81
         refine HC.out.mono ?_
         rintro e w1 h1
         have he := h1.1
         subst he
         have H1 := Lib.hid h1
         clear h1)
      | fail)
    go_ret
    exact H1.out.from_ HB0.out
end
end Go.Proofs.YtckbckdaffdjmaaDoor

/- The statement BitmapNews: the walk. -/
namespace Go.Proofs.YtckbckdaffdjmaaDoor
open Go.RowKit
set_option maxRecDepth 100000
set_option linter.unusedVariables false
set_option linter.unusedSimpArgs false

/-- Where a law stands with a Book: all that was there at the start is as it was. -/
structure At3 (W0 w : World) (own : Nat → Prop) : Prop where
  mod : Mod (fun k => W0.heap.size ≤ k) W0 w
  own : ∀ k, own k → W0.heap.size ≤ k
theorem At3.ask {W0 w w' : World} {own own' : Nat → Prop} (h : At3 W0 w own) (hl : ∀ k, k < w.heap.size → (own' k ↔ own k)) (hm : Mod own w w') : At3 W0 w' own' :=
  ⟨h.mod.on hm fun k e => .inl (h.own k e), fun k e => by
    rcases Nat.lt_or_ge k w.heap.size with h1 | h1
    · exact h.own k ((hl k h1).1 e)
    · exact Nat.le_trans h.mod.size h1⟩
theorem At3.below {W0 w w' : World} {own : Nat → Prop} (h : At3 W0 w own) (hb : Below w.heap.size w w') : At3 W0 w' own := ⟨h.mod.onB hb, h.own⟩
theorem At3.bel {W0 w : World} {own : Nat → Prop} (h : At3 W0 w own) : Below W0.heap.size W0 w := h.mod.below (Nat.le_refl _) fun _ e => e
theorem PrB.ask {w w' : World} {P p bw ba r bb b n N : Nat} {W : List UInt64} {own own' : Nat → Prop} {late : Bool} (h : PrB w P p bw ba r bb b n W own late N)
    (hb : Bok w' b own' late (N + 2)) (hl : ∀ k, k < w.heap.size → (own' k ↔ own k)) (hm : Mod own w w') : PrB w' P p bw ba r bb b n W own' late (N + 2) :=
  ⟨h.pr.mod hm h.no, hb, fun k hk e => h.no k hk ((hl k (h.pr.lt k hk)).1 e)⟩
/-- The argument boxed, and a new Book. -/
theorem boxedMB (w : World) (fr : Bool) (n : Int) (xv : Value) (late : Bool) : ∃ w1 w0 A b, w1 = w.alloc (.cells #[.bool fr, .int .i64 n, xv] 24) ∧ w0 = w1.alloc (.cells #[.slice none 0 0, .bool late, .slice none 0 0, .slice none 0 0] 31) ∧ A = w.heap.size ∧ b = w1.heap.size ∧ w.heap.size < b ∧
    Rw w1 A 24 [.bool fr, .int .i64 n, xv] ∧ Rw w0 b 31 [.slice none 0 0, .bool late, .slice none 0 0, .slice none 0 0] ∧ Below w.heap.size w w0 :=
  ⟨_, _, _, _, rfl, rfl, rfl, rfl, by simp, heap_new _ _ _ rfl, heap_new _ _ _ rfl, (below_alloc1 _ _).alloc (by simp) _⟩
theorem made_calls {w : World} {b N : Nat} {own : Nat → Prop} {late : Bool} (hK : KeepC late) (hN : N + 2 ≤ 5864062014805) (hb : Bok w b own late N) {fr : Bool} {n : Int} (hn : (Lit.int .i64 n).wf = true) {xv : Value} {V : List UInt64} (hx : RU w xv V) (hV : V.length + 80 ≤ 17592186044416) :
    Calls Tryd.prog 17 #[.agg #[.bool fr, .int .i64 n, xv], .pointer (some ⟨b, 0, none⟩)] w fun e w' => ∃ P own', e = .returned (.tuple #[.pointer (some ⟨P, 0, none⟩), .bool true]) ∧ MadeP w w' P b own' ∧ Bok w' b own' late (N + 2) ∧ (∀ k, k < w.heap.size → (own' k ↔ own k)) ∧ Mod own w w' := by
  cases fr
  · exact made_new hb hn hx
  · exact made_from hK hN hb hn hx hV
set_option maxHeartbeats 8000000 in
theorem news_calls {w : World} {fr : Bool} {n : Int} (hn : (Lit.int .i64 n).wf = true) {xv : Value} {V : List UInt64} (hx : RU w xv V) (hV : V.length ≤ 17592186043904) :
    Pur Tryd.prog 3 #[.agg #[.bool fr, .int .i64 n, xv]] w (.bool true) := by
  unfold Pur
  obtain ⟨w1, w0, A, b, hw1, hw0, hA, hb, hAb, hra, hrb, hb0⟩ := boxedMB w fr n xv false
  have hx0 := hx.below hb0
  have hmade := made_calls (fr := fr) keepC_now (by omega) (Bok.new hrb) hn hx0 (by omega)
  have hat : At3 w w0 (fun k => k = b) := ⟨Mod.of_below hb0, fun k e => by omega⟩
  have HB0 := Lib.hid hb0
  have HMD := Lib.hid hmade
  have HAT := Lib.hid hat
  obtain ⟨q, c, hxe⟩ := hx.form
  generalize V.length = L at hxe
  subst hxe
  have ca0 := hra.cell (i := 0) rfl
  have ca1 := hra.cell (i := 1) rfl
  have ca2 := hra.cell (i := 2) rfl
  clear hx hV hx0 hmade hat hn hrb hb0 hAb hra
  go_enter Tryd.func3, Tryd.ntmps3
  go_upto_region 1 with fail
  rw [← hw1, ← hA]
  clear hw1 hA
  go_upto_region 2 with (first
    | (go_at_call 17
       rw [← hw0, ← hb]
       refine HMD.out.mono ?_
       rintro e w2 ⟨P, own2, rfl, hmd, hbk, hlow, hm⟩
       have HMP := Lib.hid hmd
       have HBK := Lib.hid hbk
       have HAT2 := Lib.hid (HAT.out.ask hlow hm)
       clear hmd hbk hlow hm hw0 hb ca0 ca1 ca2)
    | fail)
  obtain ⟨hP1, hP2, hP3⟩ := HMP.out
  have hpb : own2 b := HBK.out.at_
  rcases hP3 with hnil | ⟨p, bw, ba, r, bb, m, W, hpr, hno⟩
  · have cp0 := hnil.cell (i := 0) rfl
    clear hP1 hP2 hpb hnil HMD
    go_wp2_with fail
    go_ret
    exact ⟨rfl, HAT2.out.bel⟩
  · have hB2 : PrB w2 P p bw ba r bb b m W own2 false 2 := ⟨hpr, HBK.out, fun k hk => (hno k hk).2⟩
    have cp0 := hpr.hP.cell (i := 0) rfl
    have H2 := Lib.hid hB2
    clear hP1 hP2 hpb hpr hno hB2 HMD
    go_upto_region 7 with (first
      | (go_at_call 18
         refine (ask_len H2.out _ _ _ _ _ _ _).mono ?_
         rintro e w3 ⟨rfl, own3, hbk, hlow, hm⟩
         have H3 := Lib.hid (H2.out.ask hbk hlow hm)
         have HAT3 := Lib.hid (HAT2.out.ask hlow hm)
         clear hbk hlow hm)
      | fail)
    go_upto_region 8 with (first
      | (go_at_call 18
         refine (ask_count H3.out _ _ _ _ _ _ _).mono ?_
         rintro e w4 ⟨rfl, own4, hbk, hlow, hm⟩
         have H4 := Lib.hid (H3.out.ask hbk hlow hm)
         have HAT4 := Lib.hid (HAT3.out.ask hlow hm)
         clear hbk hlow hm)
      | fail)
    go_upto_region 9 with (first
      | (go_at_call 18
         refine (ask_words keepC_now (by omega) H4.out _ _ _ _ _ _ _).mono ?_
         rintro e w5 ⟨rfl, own5, hbk, hlow, hm⟩
         have H5 := Lib.hid (H4.out.ask hbk hlow hm)
         have HAT5 := Lib.hid (HAT4.out.ask hlow hm)
         clear hbk hlow hm)
      | fail)
    go_upto_region 10 with (first
      | (go_at_call 18
         refine (ask_summary keepC_now (by omega) H5.out _ _ _ _ _ _ _).mono ?_
         rintro e w6 ⟨rfl, own6, hbk, hlow, hm⟩
         have H6 := Lib.hid (H5.out.ask hbk hlow hm)
         have HAT6 := Lib.hid (HAT5.out.ask hlow hm)
         clear hbk hlow hm)
      | fail)
    trace_state
    go_wp2_with fail
    go_ret
    exact ⟨rfl, HAT6.out.bel⟩
end Go.Proofs.YtckbckdaffdjmaaDoor

/- The two pairs of a script, and their Book. -/
namespace Go.Proofs.YtckbckdaffdjmaaDoor
open Go.RowKit
set_option maxRecDepth 100000
set_option linter.unusedVariables false
set_option linter.unusedSimpArgs false

theorem keepC_any (late : Bool) : KeepC late := by
  cases late
  · exact keepC_now
  · exact keepC_late
theorem Bok.late_cell {w : World} {b N : Nat} {own : Nat → Prop} {late : Bool} (h : Bok w b own late N) : w.cell? ⟨b, 1, none⟩ = some (.bool late) := by
  obtain ⟨ow, N0, N2, ⟨v0, v2, v3, K0, K2, K3, Ws, hb, _⟩, _⟩ := h
  exact hb.blk.cell (i := 1) rfl
/-- The pair at P, its blocks A. -/
def PaR (w : World) (P b : Nat) (A : Nat → Prop) : Prop :=
  (Rw w P 35 [.pointer none, .pointer none, .pointer (some ⟨b, 0, none⟩)] ∧ ∀ k, A k ↔ k = P) ∨ ∃ p bw ba r bb n W, Pr w P p bw ba r bb b n W ∧ ∀ k, A k ↔ Pr.At P p bw ba r bb k
theorem PaR.mod {F : Nat → Prop} {w w' : World} {P b : Nat} {A : Nat → Prop} (h : PaR w P b A) (hm : Mod F w w') (hF : ∀ k, A k → ¬ F k) : PaR w' P b A := by
  rcases h with ⟨h, ha⟩ | ⟨p, bw, ba, r, bb, n, W, h, ha⟩
  · exact .inl ⟨h.mod hm (hF _ ((ha _).2 rfl)), ha⟩
  · exact .inr ⟨p, bw, ba, r, bb, n, W, h.mod hm fun k hk => hF k ((ha k).2 hk), ha⟩
theorem PaR.lt {w : World} {P b : Nat} {A : Nat → Prop} (h : PaR w P b A) : ∀ k, A k → k < w.heap.size := by
  rcases h with ⟨h, ha⟩ | ⟨p, bw, ba, r, bb, n, W, h, ha⟩
  · intro k hk; rw [ha] at hk; subst hk; exact heap_lt h
  · intro k hk; exact h.lt k ((ha k).1 hk)
/-- Where a script stands: the pairs at P1 and P2, the Book at b; from w0 on. -/
structure PInv (w0 w : World) (P1 P2 b : Nat) (late : Bool) (N : Nat) (own A1 A2 : Nat → Prop) : Prop where
  bk : Bok w b own late N
  p1 : PaR w P1 b A1
  p2 : PaR w P2 b A2
  hi : ∀ k, own k ∨ A1 k ∨ A2 k → w0.heap.size ≤ k
  n1 : ∀ k, A1 k → ¬ own k
  n2 : ∀ k, A2 k → ¬ own k
  n12 : ∀ k, A1 k → ¬ A2 k
  bel : Below w0.heap.size w0 w
section
variable {w0 w w' : World} {P1 P2 b N : Nat} {late : Bool} {own A1 A2 : Nat → Prop}
theorem PInv.swap (h : PInv w0 w P1 P2 b late N own A1 A2) : PInv w0 w P2 P1 b late N own A2 A1 :=
  ⟨h.bk, h.p2, h.p1, fun k e => h.hi k (e.elim .inl fun e => .inr e.symm), h.n2, h.n1, fun k a c => h.n12 k c a, h.bel⟩
theorem PInv.below (h : PInv w0 w P1 P2 b late N own A1 A2) (hb : Below w.heap.size w w') : PInv w0 w' P1 P2 b late N own A1 A2 :=
  ⟨h.bk.below hb, h.p1.mod (F := fun _ => False) (Mod.of_below hb) (fun _ _ => id), h.p2.mod (F := fun _ => False) (Mod.of_below hb) (fun _ _ => id), h.hi, h.n1, h.n2, h.n12, h.bel.trans (hb.mono h.bel.size)⟩
theorem PInv.more {M : Nat} (h : PInv w0 w P1 P2 b late N own A1 A2) (hM : N ≤ M) : PInv w0 w P1 P2 b late M own A1 A2 := ⟨h.bk.more hM, h.p1, h.p2, h.hi, h.n1, h.n2, h.n12, h.bel⟩
theorem PInv.prb {p bw ba r bb n : Nat} {W : List UInt64} (h : PInv w0 w P1 P2 b late N own A1 A2) (hp : Pr w P1 p bw ba r bb b n W) (ha : ∀ k, A1 k ↔ Pr.At P1 p bw ba r bb k) : PrB w P1 p bw ba r bb b n W own late N :=
  ⟨hp, h.bk, fun k hk => h.n1 k ((ha k).2 hk)⟩
/-- Behind a change of the first pair. -/
theorem PInv.chg {p bw ba r bb n : Nat} {e : Ending} (h : PInv w0 w P1 P2 b late N own A1 A2) (ha : ∀ k, A1 k ↔ Pr.At P1 p bw ba r bb k) (hc : ChgP w P1 p bw ba r bb b n N own late e w') :
    ∃ own', PInv w0 w' P1 P2 b late (N + 2) own' A1 A2 ∧ Mod (fun k => own k ∨ A1 k) w w' ∧ ∃ W', Pr w' P1 p bw ba r bb b n W' := by
  obtain ⟨-, own', W', hpb, hlow, hm⟩ := hc
  have hm' : Mod (fun k => own k ∨ A1 k) w w' := hm.mono fun k _ e => e.elim .inl fun e => .inr ((ha k).2 e)
  refine ⟨own', ⟨hpb.bk, .inr ⟨p, bw, ba, r, bb, n, W', hpb.pr, ha⟩, h.p2.mod hm' (fun k a e => e.elim (h.n2 k a) fun e => h.n12 k e a), fun k e => ?_, fun k a => hpb.no k ((ha k).1 a), fun k a e => h.n2 k a ((hlow k (h.p2.lt k a)).1 e), h.n12, h.bel.trans (hm'.below h.bel.size fun k e => h.hi k (e.elim .inl fun e => .inr (.inl e)))⟩, hm', W', hpb.pr⟩
  rcases e with e | e | e
  · rcases Nat.lt_or_ge k w.heap.size with hk | hk
    · exact h.hi k (.inl ((hlow k hk).1 e))
    · exact Nat.le_trans h.bel.size hk
  · exact h.hi k (.inr (.inl e))
  · exact h.hi k (.inr (.inr e))
end
/-- What made leaves, as a pair. -/
theorem MadeP.par {w w' : World} {P b : Nat} {own' : Nat → Prop} (h : MadeP w w' P b own') : ∃ A, PaR w' P b A ∧ ∀ k, A k → w.heap.size ≤ k ∧ ¬ own' k := by
  obtain ⟨h1, h2, h | ⟨p, bw, ba, r, bb, n, W, h3, h4⟩⟩ := h
  · exact ⟨fun k => k = P, .inl ⟨h, fun _ => Iff.rfl⟩, fun k e => by rw [e]; exact ⟨h1, h2⟩⟩
  · exact ⟨_, .inr ⟨p, bw, ba, r, bb, n, W, h3, fun _ => Iff.rfl⟩, h4⟩
/-- Both pairs made. -/
theorem PInv.start {w0 w1 w2 w3 : World} {P1 P2 b N : Nat} {late : Bool} {own1 own2 own3 : Nat → Prop} (hb1 : Below w0.heap.size w0 w1) (ho : ∀ k, own1 k → w0.heap.size ≤ k)
    (m1 : MadeP w1 w2 P1 b own2) (l1 : ∀ k, k < w1.heap.size → (own2 k ↔ own1 k)) (d1 : Mod own1 w1 w2) (k1 : Bok w2 b own2 late N)
    (m2 : MadeP w2 w3 P2 b own3) (l2 : ∀ k, k < w2.heap.size → (own3 k ↔ own2 k)) (d2 : Mod own2 w2 w3) (k3 : Bok w3 b own3 late (N + 2)) :
    ∃ A1 A2, PInv w0 w3 P1 P2 b late (N + 2) own3 A1 A2 := by
  obtain ⟨A1, p1, h1⟩ := m1.par
  obtain ⟨A2, p2, h2⟩ := m2.par
  have ho2 : ∀ k, own2 k → w0.heap.size ≤ k := fun k e => by
    rcases Nat.lt_or_ge k w1.heap.size with hk | hk
    · exact ho k ((l1 k hk).1 e)
    · exact Nat.le_trans hb1.size hk
  have ho3 : ∀ k, own3 k → w0.heap.size ≤ k := fun k e => by
    rcases Nat.lt_or_ge k w2.heap.size with hk | hk
    · exact ho2 k ((l2 k hk).1 e)
    · exact Nat.le_trans (Nat.le_trans hb1.size d1.size) hk
  refine ⟨A1, A2, k3, p1.mod d2 (fun k a => (h1 k a).2), p2, ?_, fun k a e => (h1 k a).2 ((l2 k (p1.lt k a)).1 e), fun k a => (h2 k a).2, fun k a c => by have := p1.lt k a; have := (h2 k c).1; omega, (hb1.trans (d1.below hb1.size ho)).trans (d2.below (Nat.le_trans hb1.size d1.size) ho2)⟩
  rintro k (e | e | e)
  · exact ho3 k e
  · exact Nat.le_trans hb1.size (h1 k e).1
  · exact Nat.le_trans (Nat.le_trans hb1.size d1.size) (h2 k e).1
end Go.Proofs.YtckbckdaffdjmaaDoor

/- inner: All gone over once, whole, nothing changed. -/
namespace Go.Proofs.YtckbckdaffdjmaaDoor
open Go.RowKit
attribute [local go_sem] Oper.semAt_some
set_option maxRecDepth 100000
set_option linter.unusedVariables false
set_option linter.unusedSimpArgs false

theorem results_cellb {fn : Func} {p : Tmp} {g : Nat} {v : Bool} (h : fn.results = #[.cell p 4]) {tmps : Array Value} {w : World} (ht : tmps.getD p undef = .pointer (some ⟨g, 0, none⟩)) (hc : w.cell? ⟨g, 0, none⟩ = some (.bool v)) : (results fn tmps).run Tryd.prog w = .ok (.bool v) w := by
  have h2 : (Instr.loadAt 4 (.pointer (some ⟨g, 0, none⟩))).run Tryd.prog w = .ok (.bool v) w := by go_simp
  have h3 : ((asAddr (tmps.getD p undef)).run Tryd.prog w).andThen (fun a w' => (loadVar 4 a).run Tryd.prog w') = .ok (.bool v) w := by rw [ht]; exact h2
  simp only [results, h]
  simpa [Sem.run_bind, Result.andThen] using h3
/-- Where inner stands. -/
structure InI (w X : World) (B1 B2 B3 C P p Z n : Nat) (W : List UInt64) (s : List UInt64 × Nat) : Prop where
  eq : s.1 = W
  bel : Below w.heap.size w X
  b1 : Rw X B1 25 [.pointer (some ⟨P, 0, none⟩)]
  b2 : Rw X B2 4 [.bool false]
  b3 : Rw X B3 3 [.int .i64 (s.2 : Nat)]
  bc : Rw X C 32 [.pointer (some ⟨p, 0, none⟩)]
  le : s.2 ≤ n
  sz : Z ≤ X.heap.size
theorem InI.step {w X Y : World} {B1 B2 B3 C P p Z n : Nat} {W : List UInt64} {s : List UInt64 × Nat} {F : Nat → Prop} (h : InI w X B1 B2 B3 C P p Z n W s) (hm : Mod F X Y) (hF : ∀ k, F k → w.heap.size ≤ k ∧ k ≠ B1 ∧ k ≠ B2 ∧ k ≠ B3 ∧ k ≠ C) : InI w Y B1 B2 B3 C P p Z n W s :=
  ⟨h.eq, h.bel.trans (hm.below h.bel.size fun k e => (hF k e).1), h.b1.mod hm (fun e => (hF _ e).2.1 rfl), h.b2.mod hm (fun e => (hF _ e).2.2.1 rfl), h.b3.mod hm (fun e => (hF _ e).2.2.2.1 rfl), h.bc.mod hm (fun e => (hF _ e).2.2.2.2 rfl), h.le, Nat.le_trans h.sz hm.size⟩
theorem InI.below {w X Y : World} {B1 B2 B3 C P p Z n : Nat} {W : List UInt64} {s : List UInt64 × Nat} (h : InI w X B1 B2 B3 C P p Z n W s) (hb : Below X.heap.size X Y) : InI w Y B1 B2 B3 C P p Z n W s := h.step (F := fun _ => False) (Mod.of_below hb) fun _ e => e.elim
theorem InI.put {w X : World} {B1 B2 B3 C P p Z n x : Nat} {W : List UInt64} {s : List UInt64 × Nat} (h : InI w X B1 B2 B3 C P p Z n W s) (hx : x + 1 ≤ n) (hd : B3 ≠ B1 ∧ B3 ≠ B2 ∧ B3 ≠ C ∧ w.heap.size ≤ B3) : InI w (X.setCell ⟨B3, 0, none⟩ (.int .i64 ((x : Int) + 1))) B1 B2 B3 C P p Z n W (W, x + 1) := by
  have hm : Mod (fun k => k = B3) X (X.setCell ⟨B3, 0, none⟩ (.int .i64 ((x : Int) + 1))) := Mod.setCell _ _ _ _ rfl
  exact ⟨rfl, h.bel.trans (hm.below h.bel.size fun k e => by rw [e]; exact hd.2.2.2), h.b1.mod hm (fun e => hd.1 e.symm), h.b2.mod hm (fun e => hd.2.1 e.symm), h.b3.set 0 (.int .i64 ((x : Int) + 1)), h.bc.mod hm (fun e => hd.2.2.1 e.symm), hx, Nat.le_trans h.sz hm.size⟩
set_option maxHeartbeats 8000000 in
theorem inner_calls {w : World} {P p bw ba r bb b n : Nat} {W : List UInt64} (h : Pr w P p bw ba r bb b n W) (hT : Tz w) : Pur Tryd.prog 100 #[.pointer (some ⟨P, 0, none⟩)] w (.bool true) := by
  unfold Pur
  obtain ⟨w1, hw1⟩ : ∃ w1, w1 = (w.alloc (.cells #[.pointer (some ⟨P, 0, none⟩)] 25)).alloc (.cells #[.bool false] 4) := ⟨_, rfl⟩
  have r1 : Rw w1 w.heap.size 25 [.pointer (some ⟨P, 0, none⟩)] := by rw [hw1]; exact (heap_old _ _ _ (by simp)).trans (heap_new _ _ _ rfl)
  have r2 : Rw w1 (w.heap.size + 1) 4 [.bool false] := by rw [hw1]; exact heap_new _ _ _ (by simp)
  have hb1 : Below w.heap.size w w1 := by rw [hw1]; exact (below_alloc1 _ _).alloc (by simp) _
  obtain ⟨B1, hB1⟩ : ∃ B, B = w.heap.size := ⟨_, rfl⟩
  obtain ⟨B2, hB2⟩ : ∃ B, B = B1 + 1 := ⟨_, rfl⟩
  rw [← hB1] at r1 r2
  rw [← hB2] at r2
  have hp1 := h.below hb1
  have c1 := r1.cell (i := 0) rfl
  have cp := hp1.hP.cell (i := 0) rfl
  have HH := Lib.hid h
  have HT := Lib.hid hT
  have HB1 := Lib.hid hb1
  have HR1 := Lib.hid r1
  have HR2 := Lib.hid r2
  have HBB := Lib.hid (And.intro hB1 hB2)
  have hmx := h.hm.ok.max
  clear h hT hb1 r1 r2 hp1
  (refine callsIn_wide (n := 0).1 (callsIn_of_wp_marks Tryd.func100 rfl trivial (wpIn_wide.2 ?_) rfl); simp only [Tryd.ntmps100, List.size_toArray, List.length_cons, List.length_nil, Nat.reduceAdd, Nat.reduceSub, Array.replicate_succ, Array.replicate_zero, List.push_toArray, List.append_toArray, List.nil_append, List.cons_append])
  go_upto_region 1 with fail
  rw [← hB1, ← hB2, ← hw1]
  clear hw1 hB1 hB2
  go_upto_region 2 with (first
    | (go_at_call 77; refine all_calls.mono ?_; rintro e w2 ⟨C, rfl, hC, hrc, hb2⟩
       have hcC := HR1.out.below hb2
       have HRC := Lib.hid hrc
       have HB2 := Lib.hid hb2
       have HHC := Lib.hid hC
       clear hrc hb2 hC hcC)
    | fail)
  clear c1 cp
  have hfn : (binOp .eql 109 (.func (.func 99) #[] #[.pointer (some ⟨C, 0, none⟩)]) .nilFunc).run Tryd.prog w2 = .ok (.bool false) w2 := by kernel_rfl
  go_upto_region 5 with fail
  have hba := below_alloc1 w2 (.cells #[.int .i64 0] 3)
  have r3 : Rw (w2.alloc (.cells #[.int .i64 0] 3)) w2.heap.size 3 [.int .i64 ((0 : Nat) : Int)] := heap_new _ _ _ rfl
  obtain ⟨w3, hw3⟩ : ∃ w3, w3 = w2.alloc (.cells #[.int .i64 0] 3) := ⟨_, rfl⟩
  obtain ⟨B3, hB3⟩ : ∃ B3, B3 = w2.heap.size := ⟨_, rfl⟩
  rw [← hw3] at hba r3 ⊢
  rw [← hB3] at r3 ⊢
  obtain ⟨hB1, hB2⟩ := HBB.out
  have hs1 := HB1.out.size
  have hs2 := HB2.out.size
  have l1 := heap_lt HR1.out
  have l2 := heap_lt HR2.out
  have lC := heap_lt HRC.out
  have l3 := heap_lt r3
  have hCg := HHC.out
  have hs3 := hba.size
  have H3 : Hid (InI w w3 B1 B2 B3 C P p w3.heap.size n W (W, 0)) := Lib.hid ⟨rfl, (HB1.out.trans (HB2.out.mono hs1)).trans (hba.mono (Nat.le_trans hs1 hs2)), (HR1.out.below HB2.out).below hba, (HR2.out.below HB2.out).below hba, r3, HRC.out.below hba, Nat.zero_le _, Nat.le_refl _⟩
  have HNE : Hid (∀ l, w3.heap.size ≤ l → w.heap.size ≤ l ∧ l ≠ B1 ∧ l ≠ B2 ∧ l ≠ B3 ∧ l ≠ C) := Lib.hid fun l hl => by omega
  have HD : Hid (B3 ≠ B1 ∧ B3 ≠ B2 ∧ B3 ≠ C ∧ w.heap.size ≤ B3 ∧ w.heap.size ≤ B2 ∧ B2 ≠ B1 ∧ B2 ≠ C) := Lib.hid (by omega)
  clear hba r3 hw3 hB3 hB1 hB2 hs1 hs2 l1 l2 lC l3 hCg hs3 hfn HR1 HR2 HRC
  go_wp2_with fail
  refine wp_range (a₁ := ?fr) (s0 := (W, 0)) (hg := rfl) (eg := fun args w => by kernel_rfl) (hc := all_iter (p := p) (bw := bw) (ba := ba) (n := n) (C := C) (V := W) hmx) (hps := fun _ => rfl) (hT := fun _ _ h => KeepsOthers.of_below h)
    (hKt := fun _ _ => trivial) (hKb := fun _ _ _ _ _ _ _ => trivial) (I := fun s X => InI w X B1 B2 B3 C P p w3.heap.size n W s) (Ix := fun _ _ => False) ?hIT ?hIxT ?hI ?hIx ?h0 ?hIv (hassign := ?assign) (hbody := ?body) (hdone := ?done) (hstop := ?stop)
  case assign =>
    intro l x X K hK
    simp only [Al.enc]
    gi_wp2
    exact hK
  case hIT => exact fun s X Y h ht => h.below ht
  case hIxT => exact fun _ _ _ h _ => h
  case hI =>
    intro s X l o o' h hl ho hc
    exact h.step (mod_putObj _ _ _) fun k e => by subst e; exact HNE.out _ hl
  case hIx => exact fun _ _ _ _ _ h _ _ _ => h
  case h0 => exact fun W1 hb => H3.out.below hb
  case hIv =>
    intro s X h
    exact ⟨by rw [h.eq]; exact HH.out.hm.below h.bel, h.bc, HT.out.below h.bel⟩
  case body =>
    rintro l s x X hI hrd
    have hx := hrd
    unfold Al.Rd at hx
    rw [hI.eq] at hx
    have hfe := hx.eq
    have hxn : s.2 ≤ x ∧ x < n := by
      rcases hx with ⟨h1, -⟩ | ⟨j, h1, h2, h3, -⟩
      · omega
      · omega
    have hpr := HH.out.below hI.bel
    have hfd : ∀ w1, Below X.heap.size X w1 → Pur Tryd.prog 61 #[.pointer (some ⟨r, 0, none⟩), .int .i64 (s.2 : Nat), .bool true] w1 (.int .i64 (x : Int)) := fun w1 hb => by
      have h1 := rfind_true (hpr.hr.below hb) (f := ((s.2 : Nat) : Int)) (wf_nat (by omega))
      rw [Int.toNat_natCast, ← hfe] at h1
      exact h1
    have HFD := Lib.hid hfd
    have HI := Lib.hid hI
    have HXN := Lib.hid hxn
    have cb1 := hI.b1.cell (i := 0) rfl
    have cb3 := hI.b3.cell (i := 0) rfl
    have cP := hpr.hP.cell (i := 1) rfl
    have lb1 := heap_lt hI.b1
    have lb3 := heap_lt hI.b3
    have lP := heap_lt hpr.hP
    have hx0 : (0 : Int) ≤ (x : Int) := Int.natCast_nonneg x
    have hx9 : (x : Int) < 65536 := by omega
    clear hrd hI hx hfe hxn hpr hfd
    generalize s.2 = pl at *
    gi_wp2_with fail
    refine wpIn_region_R_tail (Below X.heap.size X) 7 (by kernel_rfl) (by kernel_rfl) (by kernel_rfl) (fun ⟨_, _, h⟩ => h) (Below.drew (Below.refl _ _)) ?_
    (repeat (first | (apply wpR_pass rfl; (try simp only [Act.put, List.setIfInBounds_toArray, List.set_cons_succ, List.set_cons_zero])) | (apply wpR_val rfl; (focus (intro w1 hR; obtain ⟨hc, hf⟩ := bcellB hR; (try go_simp); (try exact Eq.refl _); done)); (try simp only [Act.put, List.setIfInBounds_toArray, List.set_cons_succ, List.set_cons_zero])) | (apply wpR_call rfl; (focus (intro w1 hR; obtain ⟨hc, hf⟩ := bcellB hR; (try go_simp); (try exact And.intro rfl rfl); done)); (focus (intro w1 hR; first | exact (HFD.out w1 hR).at_ (by first | omega | (simp; done) | (simp; omega)) hR)); (try simp only [Act.put, List.setIfInBounds_toArray, List.set_cons_succ, List.set_cons_zero])) | (apply wpR_val_want rfl; (focus (intro w1 hR; obtain ⟨hc, hf⟩ := bcellB hR; (try go_simp); (try exact Eq.refl _); done)); (try simp only [Act.put, List.setIfInBounds_toArray, List.set_cons_succ, List.set_cons_zero])) | (apply wpR_call_want rfl; (focus (intro w1 hR; obtain ⟨hc, hf⟩ := bcellB hR; (try go_simp); (try exact And.intro rfl rfl); done)); (focus (intro w1 hR; first | exact (HFD.out w1 hR).at_ (by first | omega | (simp; done) | (simp; omega)) hR)); (try simp only [Act.put, List.setIfInBounds_toArray, List.set_cons_succ, List.set_cons_zero]))))
    refine wpR_nil ?_
    intro w4 hb4
    have hI4 := HI.out.below hb4
    have d3 := hI4.b3.cell (i := 0) rfl
    have f3 := hI4.b3.frozen 0
    have HI4 := Lib.hid hI4
    have HB4 := Lib.hid hb4
    clear hI4 hb4 cb1 cb3 cP
    go_wp2_with fail
    gi_wp2_with fail
    obtain ⟨e1, e2, e3, e4, -⟩ := HD.out
    exact ⟨(KeepsOthers.of_below HB4.out).trans (KeepsOthers.setCell _ _ _), trivial, (W, x + 1), rfl, HI4.out.put (by have := HXN.out; omega) ⟨e1, e2, e3, e4⟩⟩
  case done =>
    intro D s X hD hI hfin hdef
    have hf := hfin
    unfold Al.Fin at hf
    rw [hI.eq] at hf
    have hfe := hf.eq
    have hpr := HH.out.below hI.bel
    have hfd : ∀ w1, Below X.heap.size X w1 → Pur Tryd.prog 61 #[.pointer (some ⟨r, 0, none⟩), .int .i64 (s.2 : Nat), .bool true] w1 (.int .i64 (-1)) := fun w1 hb => by
      have h1 := rfind_true (hpr.hr.below hb) (f := ((s.2 : Nat) : Int)) (wf_nat (by have := hI.le; omega))
      rw [Int.toNat_natCast, ← hfe] at h1
      exact h1
    have HFD := Lib.hid hfd
    have HI := Lib.hid hI
    have HDF := Lib.hid hdef
    have HDL := Lib.hid hD
    have cb1 := hI.b1.cell (i := 0) rfl
    have cb3 := hI.b3.cell (i := 0) rfl
    have cP := hpr.hP.cell (i := 1) rfl
    have lb1 := heap_lt hI.b1
    have lb3 := heap_lt hI.b3
    have lP := heap_lt hpr.hP
    clear hI hf hfe hfin hpr hfd hdef hD
    generalize s.2 = pl at *
    go_upto_region 10 with fail
    refine wp_region_R_tail (Below X.heap.size X) 7 (by kernel_rfl) (by kernel_rfl) (by first | exact Below.refl _ _ | exact below_alloc1 _ _ | exact below_alloc2 _ _ _ | exact below_alloc3 _ _ _ _ | (repeat' (first | assumption | exact Below.refl _ _ | exact below_alloc1 _ _ | exact below_alloc2 _ _ _ | exact below_alloc3 _ _ _ _ | (refine Below.drew ?_) | (refine below_wb ?_ ?_) | (refine Below.alloc ?_ ?_ _) | omega | (simp; done) | (simp; omega)))) ?_
    (repeat (first | (apply wpR_pass rfl; (try simp only [Act.put, List.setIfInBounds_toArray, List.set_cons_succ, List.set_cons_zero])) | (apply wpR_val rfl; (focus (intro w1 hR; obtain ⟨hc, hf⟩ := bcellB hR; (try go_simp); (try exact Eq.refl _); done)); (try simp only [Act.put, List.setIfInBounds_toArray, List.set_cons_succ, List.set_cons_zero])) | (apply wpR_call rfl; (focus (intro w1 hR; obtain ⟨hc, hf⟩ := bcellB hR; (try go_simp); (try exact And.intro rfl rfl); done)); (focus (intro w1 hR; first | exact (HFD.out w1 hR).at_ (by first | omega | (simp; done) | (simp; omega)) hR)); (try simp only [Act.put, List.setIfInBounds_toArray, List.set_cons_succ, List.set_cons_zero])) | (apply wpR_val_want rfl; (focus (intro w1 hR; obtain ⟨hc, hf⟩ := bcellB hR; (try go_simp); (try exact Eq.refl _); done)); (try simp only [Act.put, List.setIfInBounds_toArray, List.set_cons_succ, List.set_cons_zero])) | (apply wpR_call_want rfl; (focus (intro w1 hR; obtain ⟨hc, hf⟩ := bcellB hR; (try go_simp); (try exact And.intro rfl rfl); done)); (focus (intro w1 hR; first | exact (HFD.out w1 hR).at_ (by first | omega | (simp; done) | (simp; omega)) hR)); (try simp only [Act.put, List.setIfInBounds_toArray, List.set_cons_succ, List.set_cons_zero]))))
    refine wpR_nil (fun w4 hb4 => ?_)
    have hI4 := HI.out.below hb4
    have d2 := hI4.b2.cell (i := 0) rfl
    have f2 := hI4.b2.frozen 0
    have HI4 := Lib.hid hI4
    have HB4 := Lib.hid hb4
    clear hI4 hb4 cb1 cb3 cP
    go_wp2_with fail
    obtain ⟨e1, e2, e3, e4, e5, e6, e7⟩ := HD.out
    have hm5 : Mod (fun k => k = B2) w4 (w4.setCell ⟨B2, 0, none⟩ (.bool true)) := Mod.setCell _ _ _ _ rfl
    have hr5 := HI4.out.b2.set 0 (.bool true)
    have hDB : D ≠ B2 := by have h1 := H3.out.b2; have h2 := heap_lt h1; have := HDL.out; omega
    have hdl := heap_lt HDF.out
    have hb5 : Below w.heap.size w (w4.setCell ⟨B2, 0, none⟩ (.bool true)) := HI4.out.bel.trans (hm5.below HI4.out.bel.size fun k e => by rw [e]; exact e5)
    generalize w4.setCell ⟨B2, 0, none⟩ (.bool true) = w5 at *
    have hd5 : w5.heap[D]? = some (.deferred (some [])) := (hm5.block D (Nat.lt_of_lt_of_le hdl HB4.out.size) (fun e => hDB e)).trans ((HB4.out.block D hdl).trans HDF.out)
    refine ⟨by simp, .inl ⟨_, _, rfl, run_takeDeferred hd5, ?_⟩⟩
    have hm6 := mod_putObj w5 D (.deferred none)
    have hr6 := hr5.mod hm6 (fun e => hDB e.symm)
    exact ⟨_, results_cellb rfl rfl (hr6.cell (i := 0) rfl), rfl, hb5.trans (hm6.below hb5.size fun k e => by rw [e]; exact (HNE.out D HDL.out).1)⟩
  case stop => exact fun _ _ _ _ h _ => h.elim
end Go.Proofs.YtckbckdaffdjmaaDoor

/- The law's own functions: num, ones, listed. -/
namespace Go.Proofs.YtckbckdaffdjmaaDoor
open Go.RowKit
set_option maxRecDepth 100000
set_option linter.unusedVariables false
set_option linter.unusedSimpArgs false

theorem num_calls {w : World} (e : Int) : Pur Tryd.prog 33 #[.int .i64 e] w (.int .i64 e) := by
  unfold Pur
  go_enter Tryd.func33, Tryd.ntmps33
  go_wp2_with fail
  go_ret
  exact ⟨rfl, Below.refl _ _⟩
namespace Bm
theorem drop_low {x : Nat} (h0 : x ≠ 0) (hx : x < 18446744073709551616) : pop 64 (x &&& (x - 1)) + 1 = pop 64 x ∧ x &&& (x - 1) < 18446744073709551616 := by
  refine ⟨?_, Nat.lt_of_le_of_lt Nat.and_le_left hx⟩
  obtain ⟨m, hm, hk⟩ := Lib.ctzFrom_spec 64 x (by omega) hx
  generalize Lib.ctzFrom 64 x = k at *
  have hp := Nat.two_pow_pos k
  have h1 : x = 2 ^ k * (2 * m + 1) + 0 := by omega
  have h2 : x - 1 = 2 ^ k * (2 * m) + (2 ^ k - 1) := by rw [hm, Nat.mul_add]; omega
  have b1 : ∀ t, x.testBit t = if t < k then false else (2 * m + 1).testBit (t - k) := fun t => by rw [h1, Nat.testBit_two_pow_mul_add _ hp]; simp
  have b2 : ∀ t, (x - 1).testBit t = if t < k then (2 ^ k - 1).testBit t else (2 * m).testBit (t - k) := fun t => by rw [h2, Nat.testBit_two_pow_mul_add _ (by omega)]
  have b3 : ∀ t, t ≠ k → (x &&& (x - 1)).testBit t = x.testBit t := fun t ht => by
    rw [Nat.testBit_and, b1, b2]
    by_cases e : t < k
    · simp [e]
    · obtain ⟨d, hd⟩ : ∃ d, t - k = d + 1 := ⟨t - k - 1, by omega⟩
      rw [if_neg e, if_neg e, hd, Nat.testBit_succ, Nat.testBit_succ, show (2 * m + 1) / 2 = m by omega, show 2 * m / 2 = m by omega, Bool.and_self]
  have b4 : (x &&& (x - 1)).testBit k = false := by rw [Nat.testBit_and, b2, if_neg (by omega), Nat.sub_self, Nat.testBit_zero]; simp
  have b5 : x.testBit k = true := by rw [b1, if_neg (by omega), Nat.sub_self, Nat.testBit_zero]; simp
  rw [pop_cnt, pop_cnt, cnt_split _ (a := k) (c := 1) (m := 64) (by omega), cnt_split x.testBit (a := k) (c := 1) (m := 64) (by omega)]
  rw [cnt_congr (f := (x &&& (x - 1)).testBit) (g := x.testBit) (a := 0) (b := 0) k (fun t ht => b3 _ (by omega)), cnt_congr (f := (x &&& (x - 1)).testBit) (g := x.testBit) (a := k + 1) (b := k + 1) _ (fun t ht => b3 _ (by omega))]
  have c1 : cnt (x &&& (x - 1)).testBit k 1 = 0 := by rw [cnt, cnt, Nat.add_zero, b4]; rfl
  have c2 : cnt x.testBit k 1 = 1 := by rw [cnt, cnt, Nat.add_zero, b5]; rfl
  rw [c1, c2]; omega
end Bm
theorem pop_zero : Bm.pop 64 0 = 0 := by rw [Bm.pop_cnt]; exact Bm.cnt_none 64 fun t _ => Nat.zero_testBit _
/-- How many ones there are, hidden from what would reckon it. -/
def popU (x : Nat) : Nat := Bm.pop 64 x
theorem popU_le (x : Nat) : popU x ≤ 64 := Bm.pop_le 64 x
theorem popU_zero : popU 0 = 0 := pop_zero
theorem popU_drop {x : Nat} (h0 : x ≠ 0) (hx : x < 18446744073709551616) : popU (x &&& (x - 1)) + 1 = popU x ∧ x &&& (x - 1) < 18446744073709551616 := Bm.drop_low h0 hx
set_option maxHeartbeats 4000000 in
theorem ones_calls {w : World} {x : Nat} (hx : x < 18446744073709551616) : Pur Tryd.prog 70 #[.int .u64 x] w (.int .i64 (popU x : Nat)) := by
  unfold Pur
  have hle := popU_le x
  obtain ⟨Z, hZ⟩ : ∃ Z, Z = popU x := ⟨_, rfl⟩
  rw [← hZ] at hle ⊢
  have HZ := Lib.hid hZ
  have HX := Lib.hid hx
  clear hZ hx
  go_enter Tryd.func70, Tryd.ntmps70
  go_wp2_with fail
  refine wp_loop_ghost (fun q a w' => ∃ y c : Nat, q = popU y ∧ Is (fun U => ⟨#[.int .u64 (y : Int), U 1, U 2, .int .i64 (c : Int), U 4, U 5, U 6, U 7, U 8, U 9, U 10, U 11, U 12], []⟩) a ∧ Below w.heap.size w w' ∧ c + q = Z ∧ y < 18446744073709551616) Z ⟨x, 0, HZ.out, isU (fun U => ⟨#[.int .u64 (x : Int), U 1, U 2, .int .i64 0, U 4, U 5, U 6, U 7, U 8, U 9, U 10, U 11, U 12], []⟩) rfl, Below.refl _ _, Nat.zero_add _, HX.out⟩ ?_
  rintro q a w' ⟨y, c, hq, hU, hb, hs, hy⟩
  obtain ⟨U, rfl⟩ := hU.out
  have HB := Lib.hid hb
  have HS := Lib.hid hs
  have HQ := Lib.hid hq
  have hc9 : (c : Int) ≤ 64 := by omega
  have hc0 : (0 : Int) ≤ (c : Int) := Int.natCast_nonneg c
  clear hq
  by_cases h0 : y = 0
  · have hy0 : ((y : Int) != 0) = false := by rw [h0]; rfl
    have H0 : Hid (c = Z) := Lib.hid (by have := HQ.out; rw [h0, popU_zero] at this; omega)
    clear hU hb hs h0 hy
    go_wp2_with fail
    go_ret
    exact ⟨congrArg (fun z : Nat => Ending.returned (.int .i64 (z : Int))) H0.out, HB.out⟩
  · have hy0 : ((y : Int) != 0) = true := bne_iff_ne.2 fun e => h0 (Int.ofNat_inj.1 e)
    have hd := popU_drop h0 hy
    have hw : IntKind.u64.wrap ((y : Int) - 1) = ((y - 1 : Nat) : Int) := by rw [show (y : Int) - 1 = ((y - 1 : Nat) : Int) by omega]; exact wrap_nat (by omega)
    have ha := u64_and_nat y (y - 1) hy (by omega)
    rw [← HQ.out] at hd
    have HD := Lib.hid hd
    generalize y &&& (y - 1) = v at *
    obtain ⟨u, hu⟩ : ∃ u, u = y - 1 := ⟨_, rfl⟩
    rw [← hu] at hw ha
    clear hU hb hs h0 hy hd hu hle
    go_wp2_with fail
    have h1 := HD.out.1
    have h2 := HS.out
    exact ⟨popU v, by omega, v, c + 1, rfl, isU (fun U => ⟨#[.int .u64 (v : Int), U 1, U 2, .int .i64 (c + 1 : Nat), U 4, U 5, U 6, U 7, U 8, U 9, U 10, U 11, U 12], []⟩) rfl, HB.out, by omega, HD.out.2⟩
end Go.Proofs.YtckbckdaffdjmaaDoor

/- The law's own function levels. -/
namespace Go.Proofs.YtckbckdaffdjmaaDoor
open Go.RowKit
set_option maxRecDepth 100000
set_option linter.unusedVariables false
set_option linter.unusedSimpArgs false

/-- How many ones the first k words have. -/
def sumU (W : List UInt64) (k : Nat) : Nat := Bm.ones' (W.take k)
theorem sumU_zero (W : List UInt64) : sumU W 0 = 0 := rfl
theorem sumU_all (W : List UInt64) : sumU W W.length = Bm.ones' W := by unfold sumU; rw [List.take_length]
theorem ones_snoc : ∀ (W : List UInt64) (x : UInt64), Bm.ones' (W ++ [x]) = Bm.ones' W + popU x.toNat
  | [], x => by simp only [List.nil_append, Bm.ones']; unfold popU; omega
  | y :: r, x => by simp only [List.cons_append, Bm.ones', ones_snoc r x]; omega
theorem sumU_next {W : List UInt64} {k : Nat} {x : UInt64} (hx : W[k]? = some x) : sumU W (k + 1) = sumU W k + popU x.toNat := by
  unfold sumU
  rw [List.take_add_one, hx]
  exact ones_snoc _ _
theorem sumU_past {W : List UInt64} {k : Nat} (h : W.length ≤ k) : sumU W k = Bm.ones' W := by unfold sumU; rw [List.take_of_length_le h]
theorem sumU_le (W : List UInt64) (k : Nat) : sumU W k ≤ 64 * k := by
  unfold sumU
  refine Nat.le_trans (Bm.ones_le _) ?_
  have := List.length_take_le k W
  omega
set_option maxHeartbeats 8000000 in
theorem levels_calls {w : World} {p bw ba n : Nat} {W : List UInt64} (h : BM w p bw ba n W) : Pur Tryd.prog 30 #[.pointer (some ⟨p, 0, none⟩), .int .i64 n] w (.bool true) := by
  unfold Pur
  have hmx := h.ok.max
  have hpos := h.ok.pos
  have hlen := h.ok.len
  have hul := Bm.upper_length W
  rw [hlen] at hul
  obtain ⟨R, hR⟩ : ∃ R, R = Bm.room n := ⟨_, rfl⟩
  obtain ⟨R2, hR2⟩ : ∃ R2, R2 = Bm.room R := ⟨_, rfl⟩
  rw [← hR] at hlen hul
  rw [← hR2] at hul
  have HM := Lib.hid h
  have HLEN := Lib.hid hlen
  have HUL := Lib.hid hul
  have HRR : Hid (R ≤ 64 * R2 ∧ R ≤ 1024 ∧ R2 ≤ 16) := Lib.hid (by rw [hR2, hR]; unfold Bm.room; omega)
  have hq1 : ((n : Int) + 63) / 64 = (R : Int) := by rw [hR]; unfold Bm.room; omega
  have hq2 : ((R : Int) + 63) / 64 = (R2 : Int) := by rw [hR2]; unfold Bm.room; omega
  have hr9 : (R : Int) ≤ 1024 := by have := HRR.out; omega
  have hr92 : (R2 : Int) ≤ 16 := by have := HRR.out; omega
  have hn9 : (n : Int) ≤ 65536 := by omega
  have hn0 : (0 : Int) ≤ (n : Int) := by omega
  clear h hlen hul hR hR2 hmx hpos
  go_enter Tryd.func30, Tryd.ntmps30
  go_upto_region 5 with (first
    | (go_at_call 32; refine (words_calls HM.out).mono ?_; rintro e w1 ⟨v1, rfl, hn1⟩
       have hb1 := hn1.bel
       have HN1 := Lib.hid hn1
       have HB1 := Lib.hid hb1
       obtain ⟨g1, hv1, -⟩ := hn1
       rw [HLEN.out] at hv1
       clear hb1)
    | (go_at_call 64; refine (summary_calls (HM.out.below HB1.out)).mono ?_; rintro e w2 ⟨v2, rfl, hn2⟩
       have hb2 := hn2.bel
       have HN2 := Lib.hid hn2
       have HB2 := Lib.hid hb2
       obtain ⟨g2, hv2, -⟩ := hn2
       rw [HUL.out] at hv2
       clear hb2
       subst hv1 hv2)
    | fail)
  clear hq1 hq2 hn9 hn0
  have hr1 : Rw w2 g1 58 (W.map uv) := by
    obtain ⟨g, e, h4, _⟩ := HN1.out
    simp only [Value.slice.injEq, Option.some.injEq, Addr.mk.injEq, and_true] at e
    rw [e.1]; exact h4.below HB2.out
  have hr2 : Rw w2 g2 58 ((Bm.upper W).map uv) := by
    obtain ⟨g, e, h4, _⟩ := HN2.out
    simp only [Value.slice.injEq, Option.some.injEq, Addr.mk.injEq, and_true] at e
    rw [e.1]; exact h4
  have l1 := heap_lt hr1
  have l2 := heap_lt hr2
  have HR1 := Lib.hid hr1
  have HR2 := Lib.hid hr2
  clear hr1 hr2
  go_wp2_with fail
  obtain ⟨S, hS⟩ : ∃ S, S = 64 * R2 := ⟨_, rfl⟩
  have hR64 : (64 : Int) * (R2 : Int) = (S : Int) := by omega
  have HSS := Lib.hid hS
  clear hS
  refine wp_loop_count (fun k a w' => ∃ z : Nat, Is (fun U => ⟨#[.pointer (some ⟨p, 0, none⟩), .int .i64 n, U 2, U 3, U 4, .slice (some ⟨g1, 0, none⟩) R R, .slice (some ⟨g2, 0, none⟩) R2 R2, .int .i64 (z : Int), .int .i64 (k : Int), U 9, U 10, U 11, U 12, U 13, U 14, U 15, U 16, U 17, U 18, U 19, U 20, U 21, U 22, U 23, U 24, U 25, U 26, U 27, U 28, U 29, U 30, U 31, U 32, U 33, U 34, U 35, U 36, U 37, U 38, U 39, U 40, U 41, U 42, U 43, U 44, U 45, U 46, U 47, U 48, U 49, U 50, U 51, U 52, U 53, U 54, U 55, U 56, U 57, U 58, U 59, U 60, U 61, U 62, U 63, U 64, U 65, U 66, U 67, U 68, U 69, U 70, U 71, U 72, U 73, U 74], []⟩) a ∧ Below w2.heap.size w2 w' ∧ z = sumU W k) S ⟨0, isU (fun U => ⟨#[.pointer (some ⟨p, 0, none⟩), .int .i64 n, U 2, U 3, U 4, .slice (some ⟨g1, 0, none⟩) R R, .slice (some ⟨g2, 0, none⟩) R2 R2, .int .i64 0, .int .i64 0, U 9, U 10, U 11, U 12, U 13, U 14, U 15, U 16, U 17, U 18, U 19, U 20, U 21, U 22, U 23, U 24, U 25, U 26, U 27, U 28, U 29, U 30, U 31, U 32, U 33, U 34, U 35, U 36, U 37, U 38, U 39, U 40, U 41, U 42, U 43, U 44, U 45, U 46, U 47, U 48, U 49, U 50, U 51, U 52, U 53, U 54, U 55, U 56, U 57, U 58, U 59, U 60, U 61, U 62, U 63, U 64, U 65, U 66, U 67, U 68, U 69, U 70, U 71, U 72, U 73, U 74], []⟩) rfl, Below.refl _ _, rfl⟩ ?_ ?_
  · rintro k a w' hk ⟨z, hU, hb, hz⟩
    obtain ⟨U, rfl⟩ := hU.out
    have hrr := HRR.out
    have hss := HSS.out
    obtain ⟨u, hu⟩ : ∃ u, (Bm.upper W)[k / 64]? = some u := ⟨_, List.getElem?_eq_getElem (by rw [HUL.out]; omega)⟩
    have hbv := shr_bit (r := k % 64) u.toNat_lt
    have hup : u.toNat.testBit (k % 64) = decide (W.getD k 0 ≠ 0) := by
      have := Bm.upper_at hu (t := 0) (by omega)
      rwa [Nat.add_zero, Nat.add_zero] at this
    rw [hup] at hbv
    have cu := ((bcell hb).1 _ _ l2).trans (HR2.out.cell (i := k / 64) (v := uv u) (by simp [hu]))
    have hzl := sumU_le W k
    rw [← hz] at hzl
    have hk0 : (0 : Int) ≤ (k : Int) := Int.natCast_nonneg k
    have hk9 : (k : Int) < (S : Int) := by omega
    have hp0 : 0 ≤ (k : Int) / 64 := by omega
    have hp1 : (k : Int) / 64 < (R2 : Int) := by omega
    have hp2 : ((k : Int) / 64).toNat = k / 64 := by omega
    have hz9 : (z : Int) ≤ 65536 := by omega
    have hz0 : (0 : Int) ≤ (z : Int) := Int.natCast_nonneg z
    have HB := Lib.hid hb
    have HZ := Lib.hid hz
    clear hup hu hk hU hb hz hzl hss
    by_cases hkR : (k : Int) < (R : Int)
    · obtain ⟨x, hx⟩ : ∃ x, W[k]? = some x := ⟨_, List.getElem?_eq_getElem (by rw [HLEN.out]; omega)⟩
      have cx := ((bcell HB.out).1 _ _ l1).trans (HR1.out.cell (i := k) (v := uv x) (by simp [hx]))
      have hxv : ((x.toNat : Int) != 0) = decide (W.getD k 0 ≠ 0) := by
        rw [List.getD_eq_getElem?_getD, hx]
        show _ = decide (x ≠ 0)
        by_cases e : x = 0
        · subst e; rfl
        · rw [decide_eq_true e]; exact bne_iff_ne.2 fun e' => e (UInt64.toNat_inj.1 (Int.ofNat_inj.1 e'))
      have HN := Lib.hid (sumU_next hx)
      have hone := ones_calls (w := w') x.toNat_lt
      have hpl := popU_le x.toNat
      obtain ⟨q, hq⟩ : ∃ q, q = popU x.toNat := ⟨_, rfl⟩
      rw [← hq] at hone hpl HN
      have hq9 : (q : Int) ≤ 64 := by omega
      have hq0 : (0 : Int) ≤ (q : Int) := Int.natCast_nonneg q
      obtain ⟨b, hbb⟩ : ∃ b, b = decide (W.getD k 0 ≠ 0) := ⟨_, rfl⟩
      rw [← hbb] at hbv hxv
      clear hx hpl hq hbb hrr
      go_wp2_with (first | (go_at_call 70; refine hone.out.mono ?_; rintro e w3 ⟨rfl, hb3⟩) | fail)
      exact ⟨z + q, isU (fun U => ⟨#[.pointer (some ⟨p, 0, none⟩), .int .i64 n, U 2, U 3, U 4, .slice (some ⟨g1, 0, none⟩) R R, .slice (some ⟨g2, 0, none⟩) R2 R2, .int .i64 (z + q : Nat), .int .i64 (k + 1 : Nat), U 9, U 10, U 11, U 12, U 13, U 14, U 15, U 16, U 17, U 18, U 19, U 20, U 21, U 22, U 23, U 24, U 25, U 26, U 27, U 28, U 29, U 30, U 31, U 32, U 33, U 34, U 35, U 36, U 37, U 38, U 39, U 40, U 41, U 42, U 43, U 44, U 45, U 46, U 47, U 48, U 49, U 50, U 51, U 52, U 53, U 54, U 55, U 56, U 57, U 58, U 59, U 60, U 61, U 62, U 63, U 64, U 65, U 66, U 67, U 68, U 69, U 70, U 71, U 72, U 73, U 74], []⟩) rfl, HB.out.trans (hb3.mono HB.out.size), by rw [HN.out, HZ.out]⟩
    · have hkR' : (R : Int) ≤ (k : Int) := by omega
      have hgd : W.getD k 0 = 0 := by rw [List.getD_eq_getElem?_getD, List.getElem?_eq_none (by rw [HLEN.out]; omega)]; rfl
      rw [hgd] at hbv
      have HN : Hid (sumU W (k + 1) = sumU W k) := Lib.hid (by rw [sumU_past (by rw [HLEN.out]; omega), sumU_past (by rw [HLEN.out]; omega)])
      have hbv' : (bits .and .u64 ((u.toNat : Int) / 2 ^ (k % 64)) 1 == 1) = false := hbv
      clear hbv hgd hkR hrr
      go_wp2_with fail
      exact ⟨z, isU (fun U => ⟨#[.pointer (some ⟨p, 0, none⟩), .int .i64 n, U 2, U 3, U 4, .slice (some ⟨g1, 0, none⟩) R R, .slice (some ⟨g2, 0, none⟩) R2 R2, .int .i64 (z : Int), .int .i64 (k + 1 : Nat), U 9, U 10, U 11, U 12, U 13, U 14, U 15, U 16, U 17, U 18, U 19, U 20, U 21, U 22, U 23, U 24, U 25, U 26, U 27, U 28, U 29, U 30, U 31, U 32, U 33, U 34, U 35, U 36, U 37, U 38, U 39, U 40, U 41, U 42, U 43, U 44, U 45, U 46, U 47, U 48, U 49, U 50, U 51, U 52, U 53, U 54, U 55, U 56, U 57, U 58, U 59, U 60, U 61, U 62, U 63, U 64, U 65, U 66, U 67, U 68, U 69, U 70, U 71, U 72, U 73, U 74], []⟩) rfl, HB.out, by rw [HN.out]; exact HZ.out⟩
  · rintro a w' ⟨z, hU, hb, hz⟩
    obtain ⟨U, rfl⟩ := hU.out
    have hze : z = Bm.ones' W := by
      have h1 := HRR.out
      have h2 := HSS.out
      rw [hz, sumU_past (by rw [HLEN.out]; omega)]
    have hcnt := count_calls (((HM.out.below HB1.out).below HB2.out).below hb)
    rw [← hze] at hcnt
    have HB := Lib.hid hb
    have HC := Lib.hid hcnt
    clear hU hb hz hze hcnt
    go_wp2_with (first | (go_at_call 40; refine HC.out.out.mono ?_; rintro e w3 ⟨rfl, hb3⟩) | fail)
    go_ret
    exact ⟨rfl, HB1.out.trans ((HB2.out.trans ((HB.out.trans (hb3.mono HB.out.size)).mono HB2.out.size)).mono HB1.out.size)⟩
end Go.Proofs.YtckbckdaffdjmaaDoor

/- The law's own function ends. -/
namespace Go.Proofs.YtckbckdaffdjmaaDoor
open Go.RowKit
set_option maxRecDepth 100000
set_option linter.unusedVariables false
set_option linter.unusedSimpArgs false

namespace Bm
/-- What a find tells, as a stretch. -/
theorem find_cases (g : Nat → Bool) {n f : Nat} (hf : f < n) : ∃ t : Nat, f ≤ t ∧ t ≤ n ∧ cnt g f (t - f) = 0 ∧ ((find g n f = -1 ∧ t = n) ∨ (find g n f = (t : Int) ∧ t < n ∧ g t = true)) := by
  rcases find_is g n f with ⟨e, h⟩ | ⟨i, e, h1, h2, h3, h4⟩
  · exact ⟨n, by omega, Nat.le_refl _, cnt_none _ fun t ht => h _ (by omega) (by omega), .inl ⟨e, rfl⟩⟩
  · exact ⟨i, h1, by omega, cnt_none _ fun t ht => h4 _ (by omega) (by omega), .inr ⟨e, h2, h3⟩⟩
theorem cnt_one (g : Nat → Bool) (a : Nat) : cnt g a 1 = if g a = true then 1 else 0 := by rw [cnt, cnt, Nat.add_zero, Nat.zero_add]
end Bm
set_option maxHeartbeats 16000000 in
theorem ends_calls {w : World} {p bw ba n : Nat} {W : List UInt64} (h : BM w p bw ba n W) (hT : Tz w) {f : Nat} (hf : f < n) : Pur Tryd.prog 36 #[.pointer (some ⟨p, 0, none⟩), .int .i64 n, .int .i64 f] w (.bool true) := by
  unfold Pur
  have hmx := h.ok.max
  obtain ⟨t, h1, h2, h3, ht⟩ := Bm.find_cases (Bm.bit W) hf
  obtain ⟨u, g1, g2, g3, hu⟩ := Bm.find_cases (fun t => !Bm.bit W t) hf
  have hcu : Bm.cnt (Bm.bit W) f (u - f) = u - f := by
    have := Bm.cnt_not (Bm.bit W) f (u - f)
    omega
  have hnx := fun w1 (hb : Below w.heap.size w w1) => next_calls (h.below hb) (hT.below hb) (wf_nat (n := f) (by omega))
  have hnc := fun w1 (hb : Below w.heap.size w w1) => nextclear_calls (h.below hb) (hT.below hb) (wf_nat (n := f) (by omega))
  simp only [Int.toNat_natCast] at hnx hnc
  have hc1 := fun w1 (hb : Below w.heap.size w w1) => countrange_calls (h.below hb) (f := f) (c := t - f) (by omega)
  have hc2 := fun w1 (hb : Below w.heap.size w w1) => countrange_calls (h.below hb) (f := f) (c := u - f) (by omega)
  rw [h3] at hc1
  rw [hcu] at hc2
  have hc3 := fun (e : t < n) w1 (hb : Below w.heap.size w w1) => countrange_calls (h.below hb) (f := t) (c := 1) (by omega)
  have hc4 := fun (e : u < n) w1 (hb : Below w.heap.size w w1) => countrange_calls (h.below hb) (f := u) (c := 1) (by omega)
  rw [Bm.cnt_one] at hc3 hc4
  obtain ⟨T, hTT⟩ : ∃ T, T = Bm.find (Bm.bit W) n f := ⟨_, rfl⟩
  obtain ⟨U0, hUU⟩ : ∃ U0, U0 = Bm.find (fun t => !Bm.bit W t) n f := ⟨_, rfl⟩
  rw [← hTT] at ht hnx
  rw [← hUU] at hu hnc
  have hd1 : (t : Int) - (f : Int) = ((t - f : Nat) : Int) := by omega
  have hd2 : (u : Int) - (f : Int) = ((u - f : Nat) : Int) := by omega
  obtain ⟨td, htd⟩ : ∃ td, td = t - f := ⟨_, rfl⟩
  obtain ⟨ud, hud⟩ : ∃ ud, ud = u - f := ⟨_, rfl⟩
  rw [← htd] at hd1 hc1
  rw [← hud] at hd2 hc2
  have HNX := Lib.hid hnx
  have HNC := Lib.hid hnc
  have HC1 := Lib.hid hc1
  have HC2 := Lib.hid hc2
  have hn0 : (n : Int) ≤ 65536 := by omega
  have hf0 : (0 : Int) ≤ (f : Int) := Int.natCast_nonneg f
  have ht1 : (f : Int) ≤ (t : Int) := by omega
  have ht2 : (t : Int) ≤ (n : Int) := by omega
  have hu1 : (f : Int) ≤ (u : Int) := by omega
  have hu2 : (u : Int) ≤ (n : Int) := by omega
  have hnum := fun (w : World) (e : Int) => num_calls (w := w) e
  have HNUM := Lib.hid hnum
  have HNUMb := Lib.hid hnum
  have HNUMc := Lib.hid hnum
  have HNUMd := Lib.hid hnum
  have HC3 : Hid (T ≠ -1 → T = (t : Int) ∧ ∀ w1, Below w.heap.size w w1 → Pur Tryd.prog 39 #[.pointer (some ⟨p, 0, none⟩), .int .i64 t, .int .i64 1] w1 (.tuple #[.int .i64 1, .int .i64 0])) := Lib.hid fun e => by
    rcases ht with ⟨e', _⟩ | ⟨e', hlt, hb⟩
    · exact absurd e' e
    · refine ⟨e', fun w1 hb1 => ?_⟩
      have := hc3 hlt w1 hb1
      rw [if_pos hb] at this
      exact this
  have HC4 : Hid (U0 ≠ -1 → U0 = (u : Int) ∧ ∀ w1, Below w.heap.size w w1 → Pur Tryd.prog 39 #[.pointer (some ⟨p, 0, none⟩), .int .i64 u, .int .i64 1] w1 (.tuple #[.int .i64 0, .int .i64 0])) := Lib.hid fun e => by
    rcases hu with ⟨e', _⟩ | ⟨e', hlt, hb⟩
    · exact absurd e' e
    · refine ⟨e', fun w1 hb1 => ?_⟩
      have := hc4 hlt w1 hb1
      rw [if_neg (by simpa using hb)] at this
      exact this
  have hT2 : (T = -1 ∧ t = n) ∨ (T ≠ -1 ∧ T = (t : Int)) := by omega
  have hU2 : (U0 = -1 ∧ u = n) ∨ (U0 ≠ -1 ∧ U0 = (u : Int)) := by omega
  clear h hT hf hmx h1 h2 h3 ht g1 g2 g3 hu hcu hnx hnc hc1 hc2 hc3 hc4 hTT hUU htd hud hnum
  go_enter Tryd.func36, Tryd.ntmps36
  go_upto_if 17 with (first
    | (go_at_call 31; refine (HNX.out w (Below.refl _ _)).out.mono ?_; rintro e w1 ⟨rfl, hb1⟩)
    | fail)
  rename_i hnext
  refine wp_cut (fun a' w' => Is (fun U => ⟨#[.pointer (some ⟨p, 0, none⟩), .int .i64 n, .int .i64 f, U 3, U 4, U 5, U 6, .int .i64 T, .int .i64 (t : Int), U 9, U 10, U 11, U 12, U 13, U 14, U 15, U 16, U 17, U 18, U 19, U 20, U 21, U 22, U 23, U 24, U 25, U 26, U 27, U 28, U 29, U 30, U 31, U 32, U 33, U 34, U 35, U 36, U 37, U 38, U 39, U 40, U 41, U 42, U 43, U 44, U 45, U 46, U 47, U 48, U 49, U 50, U 51, U 52, U 53, U 54, U 55, U 56, U 57, U 58, U 59, U 60, U 61, U 62, U 63, U 64, U 65, U 66, U 67, U 68, U 69, U 70, U 71, U 72, U 73, U 74, U 75, U 76, U 77, U 78, U 79, U 80, U 81, U 82, U 83, U 84, U 85, U 86, U 87, U 88, U 89, U 90, U 91, U 92, U 93, U 94, U 95, U 96, U 97, U 98, U 99, U 100, U 101, U 102, U 103, U 104, U 105, U 106], []⟩) a' ∧ w' = w1) ?_ ?_
  · rintro a w' ⟨hU, hww⟩
    rw [hww]
    clear hww w'
    obtain ⟨U, rfl⟩ := hU.out
    refine hnext _ _ ?_
    clear hnext hU
    have HB1 := Lib.hid hb1
    clear hb1
    go_upto_if 44 with (first
      | (go_at_call 39; refine (HC1.out w1 HB1.out).out.mono ?_; clear HC1; rintro e w2 ⟨rfl, hb2⟩)
      | (go_at_call 33; refine (HNUM.out w2 _).out.mono ?_; clear HNUM; rintro e w3 ⟨rfl, hb3⟩)
      | fail)
    rename_i hnext
    have HB3 : Hid (Below w.heap.size w w3) := Lib.hid (HB1.out.trans ((hb2.trans (hb3.mono hb2.size)).mono HB1.out.size))
    clear hb2 hb3
    refine wp_cut (fun a' w' => Is (fun U => ⟨#[.pointer (some ⟨p, 0, none⟩), .int .i64 n, .int .i64 f, U 3, U 4, U 5, U 6, U 7, U 8, U 9, U 10, U 11, U 12, U 13, U 14, U 15, U 16, U 17, U 18, U 19, U 20, U 21, U 22, U 23, U 24, U 25, U 26, U 27, U 28, U 29, U 30, U 31, U 32, U 33, U 34, U 35, U 36, U 37, U 38, U 39, U 40, U 41, U 42, U 43, U 44, U 45, U 46, U 47, U 48, U 49, U 50, U 51, U 52, U 53, U 54, U 55, U 56, U 57, U 58, U 59, U 60, U 61, U 62, U 63, U 64, U 65, U 66, U 67, U 68, U 69, U 70, U 71, U 72, U 73, U 74, U 75, U 76, U 77, U 78, U 79, U 80, U 81, U 82, U 83, U 84, U 85, U 86, U 87, U 88, U 89, U 90, U 91, U 92, U 93, U 94, U 95, U 96, U 97, U 98, U 99, U 100, U 101, U 102, U 103, U 104, U 105, U 106], []⟩) a' ∧ Below w.heap.size w w') ?_ ?_
    · rintro a w4 ⟨hU, hb4⟩
      obtain ⟨U, rfl⟩ := hU.out
      refine hnext _ _ ?_
      have HB4 := Lib.hid hb4
      clear hnext hU hb4 hT2
      go_upto_if 63 with (first
        | (go_at_call 35; refine (HNC.out w4 HB4.out).out.mono ?_; rintro e w5 ⟨rfl, hb5⟩)
        | fail)
      rename_i hnext
      have HB5 : Hid (Below w.heap.size w w5) := Lib.hid (HB4.out.trans (hb5.mono HB4.out.size))
      clear hb5
      refine wp_cut (fun a' w' => Is (fun U => ⟨#[.pointer (some ⟨p, 0, none⟩), .int .i64 n, .int .i64 f, U 3, U 4, U 5, U 6, U 7, .int .i64 (u : Int), U 9, U 10, .int .i64 U0, U 12, U 13, U 14, U 15, U 16, U 17, U 18, U 19, U 20, U 21, U 22, U 23, U 24, U 25, U 26, U 27, U 28, U 29, U 30, U 31, U 32, U 33, U 34, U 35, U 36, U 37, U 38, U 39, U 40, U 41, U 42, U 43, U 44, U 45, U 46, U 47, U 48, U 49, U 50, U 51, U 52, U 53, U 54, U 55, U 56, U 57, U 58, U 59, U 60, U 61, U 62, U 63, U 64, U 65, U 66, U 67, U 68, U 69, U 70, U 71, U 72, U 73, U 74, U 75, U 76, U 77, U 78, U 79, U 80, U 81, U 82, U 83, U 84, U 85, U 86, U 87, U 88, U 89, U 90, U 91, U 92, U 93, U 94, U 95, U 96, U 97, U 98, U 99, U 100, U 101, U 102, U 103, U 104, U 105, U 106], []⟩) a' ∧ w' = w5) ?_ ?_
      · rintro a w' ⟨hU, hww⟩
        rw [hww]
        clear hww w'
        obtain ⟨U, rfl⟩ := hU.out
        refine hnext _ _ ?_
        clear hnext hU
        have hu0 : (u : Int) - (f : Int) = (ud : Int) := hd2
        rcases hU2 with ⟨rfl, rfl⟩ | ⟨hne, he⟩
        · go_wp2_with (first
            | (go_at_call 39; refine (HC2.out w5 HB5.out).out.mono ?_; clear HC2; rintro e w6 ⟨rfl, hb6⟩)
            | (go_at_call 33; refine (HNUMb.out w6 _).out.mono ?_; clear HNUMb; rintro e w7 ⟨rfl, hb7⟩)
            | fail)
          go_ret
          exact ⟨rfl, HB5.out.trans ((hb6.trans (hb7.mono hb6.size)).mono HB5.out.size)⟩
        · have hne' : (U0 == -1) = false := beq_eq_false_iff_ne.2 hne
          have hne2 : (U0 != -1) = true := bne_iff_ne.2 hne
          obtain ⟨he4, h4⟩ := HC4.out hne
          have H4 := Lib.hid h4
          clear he h4 hne
          subst he4
          go_wp2_with (first
            | (go_at_call 39; refine (HC2.out w5 HB5.out).out.mono ?_; clear HC2; rintro e w6 ⟨rfl, hb6⟩; have HB6 : Hid (Below w.heap.size w w6) := Lib.hid (HB5.out.trans (hb6.mono HB5.out.size)); clear hb6)
            | (go_at_call 33; refine (HNUMb.out w6 _).out.mono ?_; clear HNUMb; rintro e w7 ⟨rfl, hb7⟩; have HB7 : Hid (Below w.heap.size w w7) := Lib.hid (HB6.out.trans (hb7.mono HB6.out.size)); clear hb7)
            | (go_at_call 39; refine (H4.out w7 HB7.out).out.mono ?_; clear H4; rintro e w8 ⟨rfl, hb8⟩; have HB8 : Hid (Below w.heap.size w w8) := Lib.hid (HB7.out.trans (hb8.mono HB7.out.size)); clear hb8)
            | (go_at_call 33; refine (HNUMc.out w8 _).out.mono ?_; clear HNUMc; rintro e w9 ⟨rfl, hb9⟩)
            | fail)
          go_ret
          exact ⟨rfl, HB8.out.trans (hb9.mono HB8.out.size)⟩
      · intro J K' hJ hK'
        rcases hU2 with ⟨rfl, rfl⟩ | ⟨hne, rfl⟩
        · go_wp2_with fail
          exact Met.intro (hJ _ _ ⟨isU (fun U => ⟨#[.pointer (some ⟨p, 0, none⟩), .int .i64 u, .int .i64 f, U 3, U 4, U 5, U 6, U 7, .int .i64 (u : Int), U 9, U 10, .int .i64 (-1), U 12, U 13, U 14, U 15, U 16, U 17, U 18, U 19, U 20, U 21, U 22, U 23, U 24, U 25, U 26, U 27, U 28, U 29, U 30, U 31, U 32, U 33, U 34, U 35, U 36, U 37, U 38, U 39, U 40, U 41, U 42, U 43, U 44, U 45, U 46, U 47, U 48, U 49, U 50, U 51, U 52, U 53, U 54, U 55, U 56, U 57, U 58, U 59, U 60, U 61, U 62, U 63, U 64, U 65, U 66, U 67, U 68, U 69, U 70, U 71, U 72, U 73, U 74, U 75, U 76, U 77, U 78, U 79, U 80, U 81, U 82, U 83, U 84, U 85, U 86, U 87, U 88, U 89, U 90, U 91, U 92, U 93, U 94, U 95, U 96, U 97, U 98, U 99, U 100, U 101, U 102, U 103, U 104, U 105, U 106], []⟩) rfl, rfl⟩)
        · have hne' : ((u : Int) == -1) = false := beq_eq_false_iff_ne.2 hne
          go_wp2_with fail
          exact Met.intro (hJ _ _ ⟨isU (fun U => ⟨#[.pointer (some ⟨p, 0, none⟩), .int .i64 n, .int .i64 f, U 3, U 4, U 5, U 6, U 7, .int .i64 (u : Int), U 9, U 10, .int .i64 (u : Int), U 12, U 13, U 14, U 15, U 16, U 17, U 18, U 19, U 20, U 21, U 22, U 23, U 24, U 25, U 26, U 27, U 28, U 29, U 30, U 31, U 32, U 33, U 34, U 35, U 36, U 37, U 38, U 39, U 40, U 41, U 42, U 43, U 44, U 45, U 46, U 47, U 48, U 49, U 50, U 51, U 52, U 53, U 54, U 55, U 56, U 57, U 58, U 59, U 60, U 61, U 62, U 63, U 64, U 65, U 66, U 67, U 68, U 69, U 70, U 71, U 72, U 73, U 74, U 75, U 76, U 77, U 78, U 79, U 80, U 81, U 82, U 83, U 84, U 85, U 86, U 87, U 88, U 89, U 90, U 91, U 92, U 93, U 94, U 95, U 96, U 97, U 98, U 99, U 100, U 101, U 102, U 103, U 104, U 105, U 106], []⟩) rfl, rfl⟩)
    · intro J K' hJ hK'
      rcases hT2 with ⟨rfl, rfl⟩ | ⟨hne, he⟩
      · go_wp2_with fail
        exact Met.intro (hJ _ _ ⟨isU (fun U => ⟨#[.pointer (some ⟨p, 0, none⟩), .int .i64 t, .int .i64 f, U 3, U 4, U 5, U 6, U 7, U 8, U 9, U 10, U 11, U 12, U 13, U 14, U 15, U 16, U 17, U 18, U 19, U 20, U 21, U 22, U 23, U 24, U 25, U 26, U 27, U 28, U 29, U 30, U 31, U 32, U 33, U 34, U 35, U 36, U 37, U 38, U 39, U 40, U 41, U 42, U 43, U 44, U 45, U 46, U 47, U 48, U 49, U 50, U 51, U 52, U 53, U 54, U 55, U 56, U 57, U 58, U 59, U 60, U 61, U 62, U 63, U 64, U 65, U 66, U 67, U 68, U 69, U 70, U 71, U 72, U 73, U 74, U 75, U 76, U 77, U 78, U 79, U 80, U 81, U 82, U 83, U 84, U 85, U 86, U 87, U 88, U 89, U 90, U 91, U 92, U 93, U 94, U 95, U 96, U 97, U 98, U 99, U 100, U 101, U 102, U 103, U 104, U 105, U 106], []⟩) rfl, HB3.out⟩)
      · have hne2 : (T != -1) = true := bne_iff_ne.2 hne
        obtain ⟨he3, h3⟩ := HC3.out hne
        have H3 := Lib.hid h3
        clear he h3 hne
        subst he3
        go_wp2_with (first
          | (go_at_call 39; refine (H3.out w3 HB3.out).out.mono ?_; clear H3; rintro e w8 ⟨rfl, hb8⟩; have HB8 : Hid (Below w.heap.size w w8) := Lib.hid (HB3.out.trans (hb8.mono HB3.out.size)); clear hb8)
          | (go_at_call 33; refine (HNUMc.out w8 _).out.mono ?_; clear HNUMc; rintro e w9 ⟨rfl, hb9⟩)
          | fail)
        exact Met.intro (hJ _ _ ⟨isU (fun U => ⟨#[.pointer (some ⟨p, 0, none⟩), .int .i64 n, .int .i64 f, U 3, U 4, U 5, U 6, U 7, U 8, U 9, U 10, U 11, U 12, U 13, U 14, U 15, U 16, U 17, U 18, U 19, U 20, U 21, U 22, U 23, U 24, U 25, U 26, U 27, U 28, U 29, U 30, U 31, U 32, U 33, U 34, U 35, U 36, U 37, U 38, U 39, U 40, U 41, U 42, U 43, U 44, U 45, U 46, U 47, U 48, U 49, U 50, U 51, U 52, U 53, U 54, U 55, U 56, U 57, U 58, U 59, U 60, U 61, U 62, U 63, U 64, U 65, U 66, U 67, U 68, U 69, U 70, U 71, U 72, U 73, U 74, U 75, U 76, U 77, U 78, U 79, U 80, U 81, U 82, U 83, U 84, U 85, U 86, U 87, U 88, U 89, U 90, U 91, U 92, U 93, U 94, U 95, U 96, U 97, U 98, U 99, U 100, U 101, U 102, U 103, U 104, U 105, U 106], []⟩) rfl, HB8.out.trans (hb9.mono HB8.out.size)⟩)
  · intro J K' hJ hK'
    rcases hT2 with ⟨rfl, rfl⟩ | ⟨hne, rfl⟩
    · go_wp2_with fail
      exact Met.intro (hJ _ _ ⟨isU (fun U => ⟨#[.pointer (some ⟨p, 0, none⟩), .int .i64 t, .int .i64 f, U 3, U 4, U 5, U 6, .int .i64 (-1), .int .i64 (t : Int), U 9, U 10, U 11, U 12, U 13, U 14, U 15, U 16, U 17, U 18, U 19, U 20, U 21, U 22, U 23, U 24, U 25, U 26, U 27, U 28, U 29, U 30, U 31, U 32, U 33, U 34, U 35, U 36, U 37, U 38, U 39, U 40, U 41, U 42, U 43, U 44, U 45, U 46, U 47, U 48, U 49, U 50, U 51, U 52, U 53, U 54, U 55, U 56, U 57, U 58, U 59, U 60, U 61, U 62, U 63, U 64, U 65, U 66, U 67, U 68, U 69, U 70, U 71, U 72, U 73, U 74, U 75, U 76, U 77, U 78, U 79, U 80, U 81, U 82, U 83, U 84, U 85, U 86, U 87, U 88, U 89, U 90, U 91, U 92, U 93, U 94, U 95, U 96, U 97, U 98, U 99, U 100, U 101, U 102, U 103, U 104, U 105, U 106], []⟩) rfl, rfl⟩)
    · have hne' : ((t : Int) == -1) = false := beq_eq_false_iff_ne.2 hne
      go_wp2_with fail
      exact Met.intro (hJ _ _ ⟨isU (fun U => ⟨#[.pointer (some ⟨p, 0, none⟩), .int .i64 n, .int .i64 f, U 3, U 4, U 5, U 6, .int .i64 (t : Int), .int .i64 (t : Int), U 9, U 10, U 11, U 12, U 13, U 14, U 15, U 16, U 17, U 18, U 19, U 20, U 21, U 22, U 23, U 24, U 25, U 26, U 27, U 28, U 29, U 30, U 31, U 32, U 33, U 34, U 35, U 36, U 37, U 38, U 39, U 40, U 41, U 42, U 43, U 44, U 45, U 46, U 47, U 48, U 49, U 50, U 51, U 52, U 53, U 54, U 55, U 56, U 57, U 58, U 59, U 60, U 61, U 62, U 63, U 64, U 65, U 66, U 67, U 68, U 69, U 70, U 71, U 72, U 73, U 74, U 75, U 76, U 77, U 78, U 79, U 80, U 81, U 82, U 83, U 84, U 85, U 86, U 87, U 88, U 89, U 90, U 91, U 92, U 93, U 94, U 95, U 96, U 97, U 98, U 99, U 100, U 101, U 102, U 103, U 104, U 105, U 106], []⟩) rfl, rfl⟩)
end Go.Proofs.YtckbckdaffdjmaaDoor

/- The law's own function listed. -/
namespace Go.Proofs.YtckbckdaffdjmaaDoor
open Go.RowKit
set_option maxRecDepth 100000
set_option linter.unusedVariables false
set_option linter.unusedSimpArgs false

namespace Bm
def listedB (n : Int) (V : List UInt64) : Bool := decide (1 ≤ n ∧ n ≤ 65536) && (validE n.toNat V == 0)
end Bm
set_option maxHeartbeats 4000000 in
theorem lawlisted_calls {w : World} {n : Int} {v : Value} {V : List UInt64} (hv : RU w v V) (hn : (Lit.int .i64 n).wf = true) : Pur Tryd.prog 26 #[.int .i64 n, v] w (.bool (Bm.listedB n V)) := by
  unfold Pur
  obtain ⟨p, cp, rfl, k1, k2, k3, hr⟩ := hv
  have hw := i64_wf hn
  obtain ⟨L, hL⟩ : ∃ L, L = V.length := ⟨_, rfl⟩
  have HL := Lib.hid hL
  rw [← hL] at k1 k3 ⊢
  have hL9 : (L : Int) ≤ 17592186044416 := by omega
  clear hn
  by_cases h1 : n < 1
  · have hb : Bm.listedB n V = false := by unfold Bm.listedB; rw [decide_eq_false (by omega)]; rfl
    rw [hb]
    clear hr hL k1 k2 k3 hw
    go_enter Tryd.func26, Tryd.ntmps26
    go_wp2_with fail
    go_ret
    exact ⟨rfl, Below.refl _ _⟩
  · by_cases h2 : 65536 < n
    · have hb : Bm.listedB n V = false := by unfold Bm.listedB; rw [decide_eq_false (by omega)]; rfl
      rw [hb]
      clear hr hL k1 k2 k3 hw
      go_enter Tryd.func26, Tryd.ntmps26
      go_wp2_with fail
      go_ret
      exact ⟨rfl, Below.refl _ _⟩
    · obtain ⟨m, rfl⟩ : ∃ m : Nat, n = m := ⟨n.toNat, by omega⟩
      have hbb : Bm.listedB (m : Int) V = (Bm.validE m V == 0) := by unfold Bm.listedB; rw [decide_eq_true (by omega), Bool.true_and, Int.toNat_natCast]
      rw [hbb]
      have hrm : Bm.room m = (m + 63) / 64 := rfl
      by_cases h3 : L = Bm.room m
      · obtain ⟨x, hx⟩ : ∃ x, V[L - 1]? = some x := ⟨V[L - 1], List.getElem?_eq_getElem (by omega)⟩
        obtain ⟨g, o, rfl, hg, hc⟩ := hr _ _ hx
        have hx' : V.getD (V.length - 1) 0 = x := by rw [List.getD_eq_getElem?_getD, ← hL, hx]; rfl
        have hve : Bm.validE m V = if m % 64 ≠ 0 ∧ x.toNat / 2 ^ (m % 64) ≠ 0 then 2 else 0 := by unfold Bm.validE; rw [if_neg (by omega), hx']
        have hdiv := div_nat x.toNat (m % 64)
        have hq : ((m : Int) + 63) / 64 = (L : Int) := by omega
        have hl1 : (L : Int) - 1 = ((L - 1 : Nat) : Int) := by omega
        have hl2 : ((L - 1 : Nat) : Int) < (L : Int) := by omega
        have hl3 : (0 : Int) ≤ ((L - 1 : Nat) : Int) := by omega
        have hm1 : (1 : Int) ≤ (m : Int) := by omega
        have hm2 : (m : Int) ≤ 65536 := by omega
        obtain ⟨d, hd⟩ : ∃ d, d = x.toNat / 2 ^ (m % 64) := ⟨_, rfl⟩
        rw [← hd] at hdiv hve
        by_cases e2 : m % 64 = 0
        · have hb : (Bm.validE m V == 0) = true := by rw [hve, if_neg (by simp [e2])]; rfl
          rw [hb]
          have hmm : (m : Int) % 64 = 0 := by omega
          clear hr hL hx hx' hve hdiv hd hrm h3 k1 k3 hw hbb hb e2 h1 h2
          go_enter Tryd.func26, Tryd.ntmps26
          go_wp2_with fail
          go_ret
          exact ⟨rfl, Below.refl _ _⟩
        · have hmm : ((m : Int) % 64 == 0) = false := by simp; omega
          by_cases e3 : d = 0
          · have hb : (Bm.validE m V == 0) = true := by rw [hve, if_neg (by simp [e3])]; rfl
            rw [hb]
            have hdd : ((d : Int) == 0) = true := by rw [e3]; rfl
            clear hr hL hx hx' hve hd hrm h3 k1 k3 hw hbb hb e2 h1 h2 e3
            go_enter Tryd.func26, Tryd.ntmps26
            go_wp2_with fail
            go_ret
            exact ⟨rfl, Below.refl _ _⟩
          · have hb : (Bm.validE m V == 0) = false := by rw [hve, if_pos ⟨e2, e3⟩]; rfl
            rw [hb]
            have hdd : ((d : Int) == 0) = false := beq_eq_false_iff_ne.2 fun e => e3 (Int.ofNat_inj.1 e)
            clear hr hL hx hx' hve hd hrm h3 k1 k3 hw hbb hb e2 h1 h2 e3
            go_enter Tryd.func26, Tryd.ntmps26
            go_wp2_with fail
            go_ret
            exact ⟨rfl, Below.refl _ _⟩
      · have hb : (Bm.validE m V == 0) = false := by unfold Bm.validE; rw [if_pos (by omega)]; rfl
        rw [hb]
        have hq : ((L : Int) != ((m : Int) + 63) / 64) = true := bne_iff_ne.2 (by omega)
        have hm1 : (1 : Int) ≤ (m : Int) := by omega
        have hm2 : (m : Int) ≤ 65536 := by omega
        clear hr hL hrm h3 k1 k3 hw hbb hb h1 h2
        go_enter Tryd.func26, Tryd.ntmps26
        go_wp2_with fail
        go_ret
        exact ⟨rfl, Below.refl _ _⟩
end Go.Proofs.YtckbckdaffdjmaaDoor

/- The law's own function lay. -/
namespace Go.Proofs.YtckbckdaffdjmaaDoor
open Go.RowKit
set_option maxRecDepth 100000
set_option linter.unusedVariables false
set_option linter.unusedSimpArgs false

/-- It returns; the bitmap is one of n bits. -/
def SB (w : World) (p bw ba n : Nat) (e : Ending) (w' : World) : Prop := (∃ v, e = .returned v) ∧ ∃ W', BM w' p bw ba n W' ∧ Mod (BM.At p bw ba) w w'
section
variable {w : World} {p bw ba n : Nat} {W : List UInt64}
theorem SB.of_pur {f : FuncId} {args : Array Value} {v : Value} (h : BM w p bw ba n W) (hp : Pur Tryd.prog f args w v) : Calls Tryd.prog f args w (SB w p bw ba n) :=
  hp.out.mono fun e w' ⟨he, hb⟩ => ⟨⟨_, he⟩, W, h.below hb, Mod.of_below hb⟩
theorem set_any (h : BM w p bw ba n W) (i : Int) : Calls Tryd.prog 28 #[.pointer (some ⟨p, 0, none⟩), .int .i64 i] w (SB w p bw ba n) := by
  by_cases hi : i < 0 ∨ (n : Int) ≤ i
  · exact SB.of_pur h (set_err h hi)
  · obtain ⟨m, rfl⟩ : ∃ m : Nat, i = m := ⟨i.toNat, by omega⟩
    exact (set_calls h (i := m) (by omega)).mono fun e w' ⟨he, h1, h2⟩ => ⟨⟨_, he⟩, _, h1, h2⟩
theorem clear_any (h : BM w p bw ba n W) (i : Int) : Calls Tryd.prog 34 #[.pointer (some ⟨p, 0, none⟩), .int .i64 i] w (SB w p bw ba n) := by
  by_cases hi : i < 0 ∨ (n : Int) ≤ i
  · exact SB.of_pur h (clear_err h hi)
  · obtain ⟨m, rfl⟩ : ∃ m : Nat, i = m := ⟨i.toNat, by omega⟩
    exact (clear_calls h (i := m) (by omega)).mono fun e w' ⟨he, h1, h2⟩ => ⟨⟨_, he⟩, _, h1, h2⟩
theorem setrange_any (h : BM w p bw ba n W) {f c : Int} (h1 : (Lit.int .i64 f).wf = true) (h2 : (Lit.int .i64 c).wf = true) : Calls Tryd.prog 67 #[.pointer (some ⟨p, 0, none⟩), .int .i64 f, .int .i64 c] w (SB w p bw ba n) := by
  by_cases he : Bm.rangeE n f c = 0
  · obtain ⟨k1, k2, k3, k4⟩ := Bm.rangeE_ok he
    obtain ⟨a, rfl⟩ : ∃ a : Nat, f = a := ⟨f.toNat, by omega⟩
    obtain ⟨b, rfl⟩ : ∃ b : Nat, c = b := ⟨c.toNat, by omega⟩
    exact (setrange_calls h (f := a) (c := b) (by omega)).mono fun e w' ⟨he, h1, h2⟩ => ⟨⟨_, he⟩, _, h1, h2⟩
  · exact SB.of_pur h (setrange_err h h1 h2 he)
theorem clearrange_any (h : BM w p bw ba n W) {f c : Int} (h1 : (Lit.int .i64 f).wf = true) (h2 : (Lit.int .i64 c).wf = true) : Calls Tryd.prog 68 #[.pointer (some ⟨p, 0, none⟩), .int .i64 f, .int .i64 c] w (SB w p bw ba n) := by
  by_cases he : Bm.rangeE n f c = 0
  · obtain ⟨k1, k2, k3, k4⟩ := Bm.rangeE_ok he
    obtain ⟨a, rfl⟩ : ∃ a : Nat, f = a := ⟨f.toNat, by omega⟩
    obtain ⟨b, rfl⟩ : ∃ b : Nat, c = b := ⟨c.toNat, by omega⟩
    exact (clearrange_calls h (f := a) (c := b) (by omega)).mono fun e w' ⟨he, h1, h2⟩ => ⟨⟨_, he⟩, _, h1, h2⟩
  · exact SB.of_pur h (clearrange_err h h1 h2 he)
theorem merge_any (h : BM w p bw ba n W) {v : Value} {V : List UInt64} (hv : RU w v V) (hne : ∀ g, v.ownBlock = some g → ¬ BM.At p bw ba g) : Calls Tryd.prog 43 #[.pointer (some ⟨p, 0, none⟩), v] w (SB w p bw ba n) := by
  by_cases he : Bm.validE n V = 0
  · exact (merge_calls h hv (Bm.ok_of_valid h.ok.pos h.ok.max he) hne).mono fun e w' ⟨he, h1, h2⟩ => ⟨⟨_, he⟩, _, h1, h2⟩
  · exact SB.of_pur h (merge_err h hv he)
end
set_option maxHeartbeats 16000000 in
theorem lawlay_calls {w : World} {n : Nat} {v sv : Value} {V : List UInt64} {ops : List OpV} (hok : Bm.Ok n V) (hv : RU w v V) (hs : SlOp w sv ops) :
    Calls Tryd.prog 27 #[.int .i64 n, v, sv] w fun e w' => ∃ p bw ba W', e = .returned (.pointer (some ⟨p, 0, none⟩)) ∧ BM w' p bw ba n W' ∧ w.heap.size ≤ p ∧ w.heap.size ≤ bw ∧ w.heap.size ≤ ba ∧ Below w.heap.size w w' := by
  have hlen := hok.len
  have hr : Bm.room n ≤ 1024 := by have := hok.max; unfold Bm.room; omega
  have hcop := copied_calls hv (by omega)
  have HL : Hid (V.length + 3 ≤ 17592186044416) := Lib.hid (by omega)
  have HOK := Lib.hid hok
  have HV := Lib.hid hv
  have HC := Lib.hid hcop
  have HS := Lib.hid hs
  obtain ⟨q, c, hse, hsl, -⟩ := hs
  obtain ⟨M, hM⟩ : ∃ M, M = ops.length := ⟨_, rfl⟩
  have HM := Lib.hid hM
  rw [← hM] at hse hsl
  have hM9 : (M : Int) ≤ 1256584717715 := by omega
  obtain ⟨vp, vc, hve⟩ := hv.form
  generalize V.length = VL at hve
  subst hse hve
  clear hok hv hcop hM hlen hr
  go_enter Tryd.func27, Tryd.ntmps27
  go_upto_region 4 with (first
    | (go_at_call 19; refine HC.out.mono ?_; clear HC; rintro e w1 ⟨xi, rfl, hci, hb1⟩
       have hfr := from_calls (hci.ru HL.out) HOK.out
       have HB1 := Lib.hid hb1
       have HFR := Lib.hid hfr
       clear hci hb1 hfr)
    | (go_at_call 54; refine HFR.out.mono ?_; clear HFR; rintro e w2 ⟨p, bw, ba, rfl, hm, hp1, hp2, hp3, hb2⟩
       have HB2 : Hid (Below w.heap.size w w2) := Lib.hid (HB1.out.trans (hb2.mono HB1.out.size))
       have HP : Hid (∀ k, BM.At p bw ba k → w.heap.size ≤ k) := Lib.hid (by have := HB1.out.size; rintro k (rfl | rfl | rfl) <;> omega)
       have HBM := Lib.hid hm
       clear hm hp1 hp2 hp3 hb2 HB1)
    | (go_at_call 33; refine (num_calls _).out.mono ?_; rintro e w3 ⟨rfl, hb3⟩)
    | fail)
  have HB3 : Hid (Below w.heap.size w w3) := Lib.hid (HB2.out.trans (hb3.mono HB2.out.size))
  have HM3 := Lib.hid (HBM.out.below hb3)
  clear hb3
  go_wp2_with fail
  refine wp_loop_count (fun i a w' => ∃ W', Is (fun U => ⟨#[U 0, U 1, .slice q M c, U 3, U 4, U 5, U 6, .pointer (some ⟨p, 0, none⟩), U 8, .int .i64 i, U 10, U 11, U 12, U 13, U 14, U 15, U 16, U 17, U 18, U 19, U 20, U 21, U 22, U 23, U 24, U 25, U 26, U 27, U 28, U 29, U 30, U 31, U 32, U 33, U 34, U 35, U 36, U 37, U 38, U 39, U 40, U 41, U 42, U 43, U 44, U 45, U 46, U 47, U 48, U 49, U 50, U 51, U 52, U 53, U 54, U 55, U 56, U 57, U 58, U 59, U 60, U 61, U 62, U 63, U 64, U 65, U 66, U 67, U 68, U 69, U 70, U 71, U 72], []⟩) a ∧ BM w' p bw ba n W' ∧ Below w.heap.size w w') M ⟨V, isU (fun U => ⟨#[U 0, U 1, .slice q M c, U 3, U 4, U 5, U 6, .pointer (some ⟨p, 0, none⟩), U 8, .int .i64 0, U 10, U 11, U 12, U 13, U 14, U 15, U 16, U 17, U 18, U 19, U 20, U 21, U 22, U 23, U 24, U 25, U 26, U 27, U 28, U 29, U 30, U 31, U 32, U 33, U 34, U 35, U 36, U 37, U 38, U 39, U 40, U 41, U 42, U 43, U 44, U 45, U 46, U 47, U 48, U 49, U 50, U 51, U 52, U 53, U 54, U 55, U 56, U 57, U 58, U 59, U 60, U 61, U 62, U 63, U 64, U 65, U 66, U 67, U 68, U 69, U 70, U 71, U 72], []⟩) rfl, HM3.out, HB3.out⟩ ?_ ?_
  · rintro i a w' hi ⟨W', hU, hm, hb⟩
    obtain ⟨U, rfl⟩ := hU.out
    obtain ⟨q', c', e', _, hr⟩ := HS.out.below hb
    simp only [Value.slice.injEq] at e'
    obtain ⟨rfl, -, -⟩ := e'
    obtain ⟨o, ho⟩ : ∃ o, ops[i]? = some o := ⟨_, List.getElem?_eq_getElem (by rw [← HM.out]; exact hi)⟩
    obtain ⟨g, off, rfl, hg, hoo, hrg⟩ := hr i o ho
    have hi' : (i : Int) < (M : Int) := by exact_mod_cast hi
    have hi0 : (0 : Int) ≤ (i : Int) := Int.natCast_nonneg i
    have HBI := Lib.hid hb
    have HMI := Lib.hid hm
    have HOO := Lib.hid hoo
    clear hU hb hm hr ho hsl
    go_upto_region 7 with fail
    rename_i hnext
    refine wp_region_lit ?_
    refine Og.st_start (n := 73) rfl fun a hF => ?_
    refine Og.st_same (.slice (some ⟨g, off, none⟩) M c) hF rfl rfl (by decide) (by kernel_rfl) ?_
    clear hF a; intro a hF
    refine Og.st_same (.int .i64 i) hF rfl rfl (by decide) (by kernel_rfl) ?_
    clear hF a; intro a hF
    refine Og.st_same (.pointer (some ⟨g, off + i * 8, none⟩)) hF rfl rfl (by decide) (exec_idx rfl (show (Instr.indexAt 49 (.slice (some ⟨g, off, none⟩) M c) (.int .i64 i)).run Tryd.prog w' = _ from idx_op w' g off M c i hi)) ?_
    clear hF a; intro a hF
    refine Og.st_same (.agg (opL o).toArray) hF rfl rfl (by decide) (Og.exec_load rfl (load_op hrg)) ?_
    clear hF a; intro a hF
    refine Og.st_val (w' := w'.alloc (.cells opZ.toArray 39)) (.pointer (some ⟨w'.heap.size, 0, none⟩)) hF rfl rfl (by decide) (alloc_op rfl w') ?_
    clear hF a; intro a hF
    refine Og.st_skip (w' := (w'.alloc (.cells opZ.toArray 39)).setCells w'.heap.size 0 (opL o)) hF rfl rfl
      (exec_store (o := 0) (vs := opL o) (cs := opZ) rfl rfl rfl (heap_new _ _ _ rfl) (Nat.le_refl 8) opi (opL_one hoo)) ?_
    clear hF a; intro a hF
    obtain ⟨w4, hw4, hrw4, hb4⟩ := op_copy hoo
    rw [← hw4]
    obtain ⟨A, hA⟩ : ∃ A, A = w'.heap.size := ⟨_, rfl⟩
    rw [← hA] at hF hrw4
    refine wpList_nil ?_
    obtain ⟨U, rfl⟩ := Og.Fr.lit_ex hF (fun U => ⟨#[U 0, U 1, .slice (some ⟨g, off, none⟩) M c, U 3, U 4, U 5, U 6, .pointer (some ⟨p, 0, none⟩), U 8, .int .i64 i, .pointer (some ⟨A, 0, none⟩), U 11, U 12, U 13, U 14, U 15, U 16, U 17, U 18, U 19, U 20, U 21, U 22, U 23, U 24, U 25, U 26, U 27, U 28, U 29, U 30, U 31, U 32, U 33, U 34, U 35, U 36, U 37, U 38, U 39, U 40, U 41, U 42, U 43, U 44, U 45, U 46, U 47, U 48, U 49, U 50, U 51, U 52, U 53, U 54, U 55, U 56, U 57, U 58, U 59, U 60, U 61, U 62, U 63, U 64, U 65, U 66, U 67, U 68, U 69, U 70, U 71, U 72], []⟩) (by kernel_rfl)
    clear hF
    refine hnext _ _ ?_
    clear hnext
    have ck := hrw4.cell (i := 0) (v := .int .i64 o.kind) rfl
    have ca := hrw4.cell (i := 2) (v := .int .i64 o.a) rfl
    have cb := hrw4.cell (i := 3) (v := .int .i64 o.b) rfl
    have cv := hrw4.cell (i := 4) (v := o.wv) rfl
    have HM4 := Lib.hid (HMI.out.below hb4)
    have HB4 : Hid (Below w.heap.size w w4) := Lib.hid (HBI.out.trans (hb4.mono HBI.out.size))
    have HO4 := Lib.hid (HOO.out.below hb4)
    obtain ⟨wp, wc, hwv⟩ := HO4.out.words.form
    rw [hwv] at cv
    have hcw := copied_calls HO4.out.words (by have := HO4.out.len; omega)
    rw [hwv] at hcw
    have HCW := Lib.hid hcw
    have HWL : Hid (o.words.length + 3 ≤ 17592186044416) := Lib.hid (by have := HO4.out.len; omega)
    have HAW := Lib.hid HO4.out.aw
    have HBW := Lib.hid HO4.out.bw
    obtain ⟨WD, hWD⟩ : ∃ WD, WD = o.words := ⟨_, rfl⟩
    rw [← hWD] at cv HCW HWL
    generalize o.kind = K at *
    generalize o.a = Ka at *
    generalize o.b = Kb at *
    clear hoo hrg hg hi hb4 hrw4 hA hw4 hcw hwv hWD HOO HO4 HBI HMI HS
    obtain ⟨VW, hVW⟩ : ∃ VW, VW = WD.length := ⟨_, rfl⟩
    rw [← hVW] at cv HCW HWL
    have HVW := Lib.hid hVW
    clear hVW
    by_cases k1 : K = 1
    · subst k1
      go_wp2_with (first | (go_at_call 28; refine (set_any HM4.out Ka).mono ?_; rintro e w5 ⟨⟨v5, rfl⟩, W5, hm5, hmd⟩) | fail)
      exact ⟨W5, isU (fun U => ⟨#[U 0, U 1, .slice (some ⟨g, off, none⟩) M c, U 3, U 4, U 5, U 6, .pointer (some ⟨p, 0, none⟩), U 8, .int .i64 (i + 1 : Nat), U 10, U 11, U 12, U 13, U 14, U 15, U 16, U 17, U 18, U 19, U 20, U 21, U 22, U 23, U 24, U 25, U 26, U 27, U 28, U 29, U 30, U 31, U 32, U 33, U 34, U 35, U 36, U 37, U 38, U 39, U 40, U 41, U 42, U 43, U 44, U 45, U 46, U 47, U 48, U 49, U 50, U 51, U 52, U 53, U 54, U 55, U 56, U 57, U 58, U 59, U 60, U 61, U 62, U 63, U 64, U 65, U 66, U 67, U 68, U 69, U 70, U 71, U 72], []⟩) rfl, hm5, HB4.out.trans (hmd.below HB4.out.size HP.out)⟩
    · by_cases k2 : K = 2
      · subst k2
        go_wp2_with (first | (go_at_call 34; refine (clear_any HM4.out Ka).mono ?_; rintro e w5 ⟨⟨v5, rfl⟩, W5, hm5, hmd⟩) | fail)
        exact ⟨W5, isU (fun U => ⟨#[U 0, U 1, .slice (some ⟨g, off, none⟩) M c, U 3, U 4, U 5, U 6, .pointer (some ⟨p, 0, none⟩), U 8, .int .i64 (i + 1 : Nat), U 10, U 11, U 12, U 13, U 14, U 15, U 16, U 17, U 18, U 19, U 20, U 21, U 22, U 23, U 24, U 25, U 26, U 27, U 28, U 29, U 30, U 31, U 32, U 33, U 34, U 35, U 36, U 37, U 38, U 39, U 40, U 41, U 42, U 43, U 44, U 45, U 46, U 47, U 48, U 49, U 50, U 51, U 52, U 53, U 54, U 55, U 56, U 57, U 58, U 59, U 60, U 61, U 62, U 63, U 64, U 65, U 66, U 67, U 68, U 69, U 70, U 71, U 72], []⟩) rfl, hm5, HB4.out.trans (hmd.below HB4.out.size HP.out)⟩
      · by_cases k3 : K = 3
        · subst k3
          go_wp2_with (first | (go_at_call 67; refine (setrange_any HM4.out HAW.out HBW.out).mono ?_; rintro e w5 ⟨⟨v5, rfl⟩, W5, hm5, hmd⟩) | fail)
          exact ⟨W5, isU (fun U => ⟨#[U 0, U 1, .slice (some ⟨g, off, none⟩) M c, U 3, U 4, U 5, U 6, .pointer (some ⟨p, 0, none⟩), U 8, .int .i64 (i + 1 : Nat), U 10, U 11, U 12, U 13, U 14, U 15, U 16, U 17, U 18, U 19, U 20, U 21, U 22, U 23, U 24, U 25, U 26, U 27, U 28, U 29, U 30, U 31, U 32, U 33, U 34, U 35, U 36, U 37, U 38, U 39, U 40, U 41, U 42, U 43, U 44, U 45, U 46, U 47, U 48, U 49, U 50, U 51, U 52, U 53, U 54, U 55, U 56, U 57, U 58, U 59, U 60, U 61, U 62, U 63, U 64, U 65, U 66, U 67, U 68, U 69, U 70, U 71, U 72], []⟩) rfl, hm5, HB4.out.trans (hmd.below HB4.out.size HP.out)⟩
        · by_cases k4 : K = 4
          · subst k4
            go_wp2_with (first | (go_at_call 68; refine (clearrange_any HM4.out HAW.out HBW.out).mono ?_; rintro e w5 ⟨⟨v5, rfl⟩, W5, hm5, hmd⟩) | fail)
            exact ⟨W5, isU (fun U => ⟨#[U 0, U 1, .slice (some ⟨g, off, none⟩) M c, U 3, U 4, U 5, U 6, .pointer (some ⟨p, 0, none⟩), U 8, .int .i64 (i + 1 : Nat), U 10, U 11, U 12, U 13, U 14, U 15, U 16, U 17, U 18, U 19, U 20, U 21, U 22, U 23, U 24, U 25, U 26, U 27, U 28, U 29, U 30, U 31, U 32, U 33, U 34, U 35, U 36, U 37, U 38, U 39, U 40, U 41, U 42, U 43, U 44, U 45, U 46, U 47, U 48, U 49, U 50, U 51, U 52, U 53, U 54, U 55, U 56, U 57, U 58, U 59, U 60, U 61, U 62, U 63, U 64, U 65, U 66, U 67, U 68, U 69, U 70, U 71, U 72], []⟩) rfl, hm5, HB4.out.trans (hmd.below HB4.out.size HP.out)⟩
          · by_cases k5 : K = 5
            · subst k5
              go_wp2_with (first
                | (go_at_call 19; refine HCW.out.mono ?_; clear HCW; rintro e w5 ⟨xi, rfl, hci, hb5⟩
                   have hxi := hci.ru (by rw [← HVW.out]; exact HWL.out)
                   have hxo := fun g0 (e0 : xi.ownBlock = some g0) => ((hci.ou (by rw [← HVW.out]; exact HWL.out)).lt g0 e0).1
                   have HXI := Lib.hid hxi
                   have HXO := Lib.hid hxo
                   have HB5 := Lib.hid hb5
                   clear hci hb5 hxi hxo)
                | (go_at_call 43; refine (merge_any (HM4.out.below HB5.out) HXI.out (fun g0 e0 => by have h1 := HXO.out g0 e0; have h2 := heap_lt HM4.out.hs; have h3 := heap_lt HM4.out.hw; have h4 := heap_lt HM4.out.ha; rintro (e | e | e) <;> omega)).mono ?_; rintro e w6 ⟨⟨v6, rfl⟩, W5, hm5, hmd⟩)
                | fail)
              have HB6 : Hid (Below w.heap.size w w5) := Lib.hid (HB4.out.trans (HB5.out.mono HB4.out.size))
              exact ⟨W5, isU (fun U => ⟨#[U 0, U 1, .slice (some ⟨g, off, none⟩) M c, U 3, U 4, U 5, U 6, .pointer (some ⟨p, 0, none⟩), U 8, .int .i64 (i + 1 : Nat), U 10, U 11, U 12, U 13, U 14, U 15, U 16, U 17, U 18, U 19, U 20, U 21, U 22, U 23, U 24, U 25, U 26, U 27, U 28, U 29, U 30, U 31, U 32, U 33, U 34, U 35, U 36, U 37, U 38, U 39, U 40, U 41, U 42, U 43, U 44, U 45, U 46, U 47, U 48, U 49, U 50, U 51, U 52, U 53, U 54, U 55, U 56, U 57, U 58, U 59, U 60, U 61, U 62, U 63, U 64, U 65, U 66, U 67, U 68, U 69, U 70, U 71, U 72], []⟩) rfl, hm5, HB6.out.trans (hmd.below HB6.out.size HP.out)⟩
            · have z1 : (K == 1) = false := by simpa using k1
              have z2 : (K == 2) = false := by simpa using k2
              have z3 : (K == 3) = false := by simpa using k3
              have z4 : (K == 4) = false := by simpa using k4
              have z5 : (K == 5) = false := by simpa using k5
              clear k1 k2 k3 k4 k5
              go_wp2_with fail
              exact ⟨W', isU (fun U => ⟨#[U 0, U 1, .slice (some ⟨g, off, none⟩) M c, U 3, U 4, U 5, U 6, .pointer (some ⟨p, 0, none⟩), U 8, .int .i64 (i + 1 : Nat), U 10, U 11, U 12, U 13, U 14, U 15, U 16, U 17, U 18, U 19, U 20, U 21, U 22, U 23, U 24, U 25, U 26, U 27, U 28, U 29, U 30, U 31, U 32, U 33, U 34, U 35, U 36, U 37, U 38, U 39, U 40, U 41, U 42, U 43, U 44, U 45, U 46, U 47, U 48, U 49, U 50, U 51, U 52, U 53, U 54, U 55, U 56, U 57, U 58, U 59, U 60, U 61, U 62, U 63, U 64, U 65, U 66, U 67, U 68, U 69, U 70, U 71, U 72], []⟩) rfl, HM4.out, HB4.out⟩
  · rintro a w' ⟨W', hU, hm, hb⟩
    obtain ⟨U, rfl⟩ := hU.out
    have HB := Lib.hid hb
    have HMM := Lib.hid hm
    clear hU hb hm
    go_wp2_with fail
    go_ret
    exact ⟨p, bw, ba, W', rfl, HMM.out, HP.out _ (.inl rfl), HP.out _ (.inr (.inl rfl)), HP.out _ (.inr (.inr rfl)), HB.out⟩
end Go.Proofs.YtckbckdaffdjmaaDoor

/- What is done ahead of a loop, or by its body: act. -/
namespace Go.Proofs.YtckbckdaffdjmaaDoor
open Go.RowKit
set_option maxRecDepth 100000
set_option linter.unusedVariables false
set_option linter.unusedSimpArgs false

theorem act_t : Tryd.prog.underlying 134 = some (.struct (Tryd.prog.fieldsOf 134)) := by kernel_rfl
theorem act_i : (Tryd.prog.info? 134).map (·.size) = some 3 := by kernel_rfl
theorem load_act {w : World} {g off : Nat} {x : AcV} (h : w.rangeAt g off (acL x)) : (Instr.loadAt 134 (.pointer (some ⟨g, off, none⟩))).run Tryd.prog w = .ok (.agg (acL x).toArray) w :=
  run_loadAt_mid w g off _ (acL x) _ h act_t rfl (by rw [act_i]; rfl)
theorem idx_act (w : World) (g o n c i : Nat) (hi : i < n) : (Instr.indexAt 37 (.slice (some ⟨g, o, none⟩) n c) (.int .i64 i)).run Tryd.prog w = .ok (.pointer (some ⟨g, o + i * 3, none⟩)) w := by
  have h1 : (i : Int) < (n : Int) := by omega
  have h0 : (0 : Int) ≤ (i : Int) := Int.natCast_nonneg i
  go_simp
def acZ : List Value := [.int .i64 0, .int .i64 0, .int .i64 0]
theorem alloc_act {ρ : Operand → Value} {o : Oper} (ho : o.op = .alloc 134) (w : World) : (execOp ρ o).run Tryd.prog w = .ok (.value (.pointer (some ⟨w.heap.size, 0, none⟩))) (w.alloc (.cells acZ.toArray 134)) := by
  unfold execOp
  rw [ho]
  kernel_rfl
theorem acL_one (x : AcV) : ∀ u ∈ acL x, u.oneCell' = true := by
  intro u hu
  simp only [acL, List.mem_cons, List.not_mem_nil, or_false] at hu
  rcases hu with rfl | rfl | rfl <;> rfl
theorem act_copy (w : World) (x : AcV) : ∃ w', w' = (w.alloc (.cells acZ.toArray 134)).setCells w.heap.size 0 (acL x) ∧ Rw w' w.heap.size 134 (acL x) ∧ Below w.heap.size w w' := by
  refine ⟨_, rfl, setCells_heap (acL x) 0 _ acZ (heap_new _ _ _ rfl), ?_⟩
  exact (below_alloc1 w _).grown (setCells_grown _ w.heap.size 0 _) (by simp) (fun k hk => by injection hk with hk; omega)
section
variable {w : World} {P p bw ba r bb b n N : Nat} {W : List UInt64} {own : Nat → Prop} {late : Bool}
theorem ChgQ.from_ {e : Ending} {w0 w' : World} (hb : Below w.heap.size w w0) (h : ChgQ w0 P p bw ba r bb b n N own late e w') : ChgQ w P p bw ba r bb b n N own late e w' := by
  obtain ⟨he, W', h1, h3⟩ := h
  exact ⟨he, W', h1, (Mod.of_below hb).trans h3⟩
theorem ChgQ.pure {w' : World} (h : PrB w P p bw ba r bb b n W own late N) (hb : Below w.heap.size w w') : ChgQ w P p bw ba r bb b n N own late (.returned (.bool true)) w' := ⟨rfl, W, h.below hb, Mod.of_below hb⟩
theorem chq_any (h : PrB w P p bw ba r bb b n W own late N) {k A B : Int} (hk : k ≤ 4) (hA : (Lit.int .i64 A).wf = true) (hB : (Lit.int .i64 B).wf = true) :
    Calls Tryd.prog 81 #[.pointer (some ⟨P, 0, none⟩), .agg #[.int .i64 k, .bool false, .int .i64 A, .int .i64 B, .slice none 0 0, .slice none 0 0, .slice none 0 0, .bool false]] w (ChgQ w P p bw ba r bb b n N own late) := by
  by_cases e1 : k = 1
  · subst e1; exact chq_set h _ _ _ _ _ hA hB
  by_cases e2 : k = 2
  · subst e2; exact chq_clear h _ _ _ _ _ hA hB
  by_cases e3 : k = 3
  · subst e3; exact chq_setrange h _ _ _ _ _ hA hB
  by_cases e4 : k = 4
  · subst e4; exact chq_clearrange h _ _ _ _ _ hA hB
  exact chq_none h _ _ _ _ _ _ _ e1 e2 e3 e4 (by omega)
set_option maxHeartbeats 8000000 in
theorem act_calls (h : PrB w P p bw ba r bb b n W own late N) (hT : Tz w) {v : Value} {l : List AcV} (hl : SlAc w v l) (i : Nat) :
    Calls Tryd.prog 80 #[.pointer (some ⟨P, 0, none⟩), v, .int .i64 i] w (ChgQ w P p bw ba r bb b n N own late) := by
  have HH := Lib.hid h
  have HT := Lib.hid hT
  obtain ⟨q, c, rfl, hll, hr⟩ := hl
  obtain ⟨L, hL⟩ : ∃ L, L = l.length := ⟨_, rfl⟩
  rw [← hL]
  by_cases hi : i < L
  · obtain ⟨x, hx⟩ : ∃ x, l[i]? = some x := ⟨_, List.getElem?_eq_getElem (by omega)⟩
    obtain ⟨g, off, rfl, hg, hok, hrg⟩ := hr i x hx
    have hi' : (i : Int) < (L : Int) := by omega
    have hi0 : (0 : Int) ≤ (i : Int) := Int.natCast_nonneg i
    have hnge : ¬ (L : Int) ≤ (i : Int) := by omega
    have HOK := Lib.hid hok
    clear h hT hr hll hx hL hok
    go_enter Tryd.func80, Tryd.ntmps80
    go_upto_region 3 with fail
    rename_i hnext
    refine wp_region_lit ?_
    refine Og.st_start (n := 33) rfl fun a hF => ?_
    refine Og.st_same (.slice (some ⟨g, off, none⟩) L c) hF rfl rfl (by decide) (by kernel_rfl) ?_
    clear hF a; intro a hF
    refine Og.st_same (.int .i64 i) hF rfl rfl (by decide) (by kernel_rfl) ?_
    clear hF a; intro a hF
    refine Og.st_same (.pointer (some ⟨g, off + i * 3, none⟩)) hF rfl rfl (by decide) (exec_idx rfl (show (Instr.indexAt 37 (.slice (some ⟨g, off, none⟩) L c) (.int .i64 i)).run Tryd.prog w = _ from idx_act w g off L c i hi)) ?_
    clear hF a; intro a hF
    refine Og.st_same (.agg (acL x).toArray) hF rfl rfl (by decide) (Og.exec_load rfl (load_act hrg)) ?_
    clear hF a; intro a hF
    refine Og.st_val (w' := w.alloc (.cells acZ.toArray 134)) (.pointer (some ⟨w.heap.size, 0, none⟩)) hF rfl rfl (by decide) (alloc_act rfl w) ?_
    clear hF a; intro a hF
    refine Og.st_skip (w' := (w.alloc (.cells acZ.toArray 134)).setCells w.heap.size 0 (acL x)) hF rfl rfl
      (exec_store (o := 0) (vs := acL x) (cs := acZ) rfl rfl rfl (heap_new _ _ _ rfl) (Nat.le_refl 3) act_i (acL_one x)) ?_
    clear hF a; intro a hF
    obtain ⟨w4, hw4, hrw4, hb4⟩ := act_copy w x
    rw [← hw4]
    obtain ⟨A, hA⟩ : ∃ A, A = w.heap.size := ⟨_, rfl⟩
    rw [← hA] at hF hrw4
    refine wpList_nil ?_
    obtain ⟨U, rfl⟩ := Og.Fr.lit_ex hF (fun U => ⟨#[.pointer (some ⟨P, 0, none⟩), U 1, U 2, U 3, U 4, U 5, .bool false, .pointer (some ⟨A, 0, none⟩), U 8, U 9, U 10, U 11, U 12, U 13, U 14, U 15, U 16, U 17, U 18, U 19, U 20, U 21, U 22, U 23, U 24, U 25, U 26, U 27, U 28, U 29, U 30, U 31, U 32], []⟩) (by kernel_rfl)
    clear hF
    refine hnext _ _ ?_
    clear hnext
    have ck := hrw4.cell (i := 0) (v := .int .i64 x.kind) rfl
    have ca := hrw4.cell (i := 1) (v := .int .i64 x.a) rfl
    have cb := hrw4.cell (i := 2) (v := .int .i64 x.b) rfl
    have lA := heap_lt hrw4
    have HB4 := Lib.hid hb4
    have HH4 := Lib.hid (HH.out.below hb4)
    have HT4 := Lib.hid (HT.out.below hb4)
    obtain ⟨k, xa, xb⟩ := x
    have hkw := HOK.out.kw
    have haw := HOK.out.aw
    have hbw := HOK.out.bw
    simp only at ck ca cb hkw haw hbw
    clear hw4 hrw4 hb4 hrg hg HOK hA
    by_cases k14 : k = 14
    · subst k14
      have HIN := Lib.hid (inner_calls HH4.out.pr HT4.out)
      go_wp2_with (first
        | (go_at_call 100
           refine HIN.out.out.mono ?_
           rintro e w5 ⟨rfl, hb5⟩
           have HB5 := Lib.hid hb5
           clear hb5)
        | fail)
      go_ret
      exact ChgQ.pure HH.out (HB4.out.trans (HB5.out.mono HB4.out.size))
    · have z14 : (k == 14) = false := by simpa using k14
      clear k14
      by_cases k4 : 4 < k
      · go_wp2_with fail
        go_ret
        exact ChgQ.pure HH.out HB4.out
      · have HC := Lib.hid (chq_any HH4.out (k := k) (by omega) haw hbw)
        clear haw hbw hkw
        go_wp2_with (first
          | (go_at_call 81
             refine HC.out.mono ?_
             rintro e w5 h1
             have he := h1.1
             subst he
             have H1 := Lib.hid h1
             clear h1)
          | fail)
        go_ret
        exact H1.out.from_ HB4.out
  · have hi' : (L : Int) ≤ (i : Int) := by omega
    clear h hT hr hll hL hi
    go_enter Tryd.func80, Tryd.ntmps80
    go_wp2_with fail
    go_ret
    exact ChgQ.pure HH.out (Below.refl _ _)
end
end Go.Proofs.YtckbckdaffdjmaaDoor

/- What is done ahead of a loop: before; how often: passes. -/
namespace Go.Proofs.YtckbckdaffdjmaaDoor
open Go.RowKit
set_option maxRecDepth 100000
set_option linter.unusedVariables false
set_option linter.unusedSimpArgs false

section
variable {w : World} {P p bw ba r bb b n N : Nat} {W : List UInt64} {own : Nat → Prop} {late : Bool}
set_option maxHeartbeats 8000000 in
theorem before_calls (h : PrB w P p bw ba r bb b n W own late N) {o : OpV} (ho : OkOp w o) {l : List AcV} (hB : ∀ X, Mod (Pr.At P p bw ba r bb) w X → SlAc X o.bv l ∧ Tz X) :
    Calls Tryd.prog 78 #[.pointer (some ⟨P, 0, none⟩), .agg (opL o).toArray] w (ChgQ w P p bw ba r bb b n N own late) := by
  obtain ⟨w0, D, hw0, hD, hrd, hb0⟩ := boxedOp w (opL o)
  have HB := Lib.hid hB
  have HB0 := Lib.hid hb0
  have hlt := h.pr.lt
  have hDn : ¬ Pr.At P p bw ba r bb D := fun e => by have := hlt _ e; omega
  have HDN := Lib.hid hDn
  have H0 := Lib.hid (h.below hb0)
  have HRD := Lib.hid hrd
  obtain ⟨q, c, hbv, hll, -⟩ := (hB w (Mod.refl _ _)).1
  obtain ⟨L, hL⟩ : ∃ L, L = l.length := ⟨_, rfl⟩
  rw [← hL] at hbv hll
  have hL9 : (L : Int) ≤ 17592186043904 := by omega
  rw [show (opL o).toArray = #[.int .i64 o.kind, .bool o.second, .int .i64 o.a, .int .i64 o.b, o.wv, o.bv, o.av, .bool o.again] from rfl] at hw0 ⊢
  have HBV := Lib.hid hbv
  clear h ho hrd hb0 hlt hDn hB hL hll hbv
  go_enter Tryd.func78, Tryd.ntmps78
  go_upto_region 1 with fail
  rw [← hw0, ← hD]
  clear hw0 hD
  go_wp2_with fail
  refine wp_loop_count (fun i a w' => Is (fun U => ⟨#[.pointer (some ⟨P, 0, none⟩), U 1, U 2, .pointer (some ⟨D, 0, none⟩), .bool false, .int .i64 i, U 6, U 7, U 8, U 9, U 10, U 11, U 12, U 13, U 14, U 15, U 16, U 17, U 18, U 19, U 20], []⟩) a ∧ ∃ W', PrB w' P p bw ba r bb b n W' own late N ∧ Mod (Pr.At P p bw ba r bb) w0 w') L ⟨isU (fun U => ⟨#[.pointer (some ⟨P, 0, none⟩), U 1, U 2, .pointer (some ⟨D, 0, none⟩), .bool false, .int .i64 0, U 6, U 7, U 8, U 9, U 10, U 11, U 12, U 13, U 14, U 15, U 16, U 17, U 18, U 19, U 20], []⟩) rfl, W, H0.out, Mod.refl _ _⟩ ?_ ?_
  · rintro i a w' hi ⟨hU, W', hpb, hm⟩
    obtain ⟨U, rfl⟩ := hU.out
    have hrd := HRD.out.mod hm HDN.out
    have hsl := HB.out w' ((Mod.of_below HB0.out).trans hm)
    have cb := hrd.cell (i := 5) (v := o.bv) rfl
    rw [HBV.out] at cb
    have HA := Lib.hid (act_calls hpb hsl.2 hsl.1 i)
    rw [HBV.out] at HA
    have HM := Lib.hid hm
    have hi' : (i : Int) < (L : Int) := by exact_mod_cast hi
    have hi0 : (0 : Int) ≤ (i : Int) := Int.natCast_nonneg i
    clear hU hpb hm hrd hsl
    go_wp2_with (first
      | (go_at_call 80
         refine HA.out.mono ?_
         rintro e w3 ⟨he, W3, h1, h2⟩
         subst he
         have H1 := Lib.hid h1
         have H2 := Lib.hid h2
         clear h1 h2)
      | fail)
    exact ⟨isU (fun U => ⟨#[.pointer (some ⟨P, 0, none⟩), U 1, U 2, .pointer (some ⟨D, 0, none⟩), .bool false, .int .i64 (i + 1 : Nat), U 6, U 7, U 8, U 9, U 10, U 11, U 12, U 13, U 14, U 15, U 16, U 17, U 18, U 19, U 20], []⟩) rfl, W3, H1.out, HM.out.trans H2.out⟩
  · rintro a w' ⟨hU, W', hpb, hm⟩
    obtain ⟨U, rfl⟩ := hU.out
    have hrd := HRD.out.mod hm HDN.out
    have cb := hrd.cell (i := 5) (v := o.bv) rfl
    rw [HBV.out] at cb
    have HM := Lib.hid hm
    have HP := Lib.hid hpb
    clear hU hpb hm hrd
    go_wp2_with fail
    go_ret
    exact ⟨rfl, W', HP.out, (Mod.of_below HB0.out).trans HM.out⟩
set_option maxHeartbeats 8000000 in
theorem passes_calls {w : World} (o : OpV) : Pur Tryd.prog 79 #[.agg (opL o).toArray] w (.int .i64 (if o.again then 2 else 1)) := by
  unfold Pur
  obtain ⟨z, hz⟩ : ∃ z : Int, z = (if o.again = true then 2 else 1) := ⟨_, rfl⟩
  rw [← hz]
  obtain ⟨w0, D, hw0, hD, hrd, hb0⟩ := boxedOp w (opL o)
  have c7 := hrd.cell (i := 7) (v := .bool o.again) rfl
  have HB0 := Lib.hid hb0
  rw [show (opL o).toArray = #[.int .i64 o.kind, .bool o.second, .int .i64 o.a, .int .i64 o.b, o.wv, o.bv, o.av, .bool o.again] from rfl] at hw0 ⊢
  have HZ := Lib.hid hz
  clear hrd hb0 hz
  go_enter Tryd.func79, Tryd.ntmps79
  go_upto_region 1 with fail
  rw [← hw0, ← hD]
  clear hw0 hD
  cases hag : o.again
  · have hz := HZ.out
    rw [hag] at c7 hz
    simp only [Bool.false_eq_true, if_false] at hz
    subst hz
    go_wp2_with fail
    go_ret
    exact ⟨rfl, HB0.out⟩
  · have hz := HZ.out
    rw [hag] at c7 hz
    simp only [if_true] at hz
    subst hz
    go_wp2_with fail
    go_ret
    exact ⟨rfl, HB0.out⟩
end
end Go.Proofs.YtckbckdaffdjmaaDoor

/- The run that begins at or above a place: run. -/
namespace Go.Proofs.YtckbckdaffdjmaaDoor
open Go.RowKit
set_option maxRecDepth 100000
set_option linter.unusedVariables false
set_option linter.unusedSimpArgs false

section
variable {w : World} {P p bw ba r bb b n : Nat} {W : List UInt64}
set_option maxHeartbeats 4000000 in
theorem run_none (h : Pr w P p bw ba r bb b n W) {pl : Nat} (hp : pl ≤ 65536) (hf : Bm.IsFind (Bm.bit W) n pl (-1)) : Pur Tryd.prog 83 #[.pointer (some ⟨P, 0, none⟩), .int .i64 pl] w (.tuple #[.int .i64 (-1), .int .i64 0]) := by
  unfold Pur
  have hfd := rfind_true h.hr (f := ((pl : Nat) : Int)) (wf_nat (by omega))
  rw [Int.toNat_natCast, ← hf.eq] at hfd
  have HFD := Lib.hid hfd
  have cP := h.hP.cell (i := 1) rfl
  clear h hp hf hfd
  go_enter Tryd.func83, Tryd.ntmps83
  go_wp2_with (first | (go_at_call 61; refine HFD.out.out.mono ?_; rintro e w1 ⟨rfl, hb1⟩) | fail)
  refine bodyPost_ret (results_tmp2 rfl _ _ _) rfl ?_
  exact ⟨rfl, hb1⟩
set_option maxHeartbeats 4000000 in
theorem run_some (h : Pr w P p bw ba r bb b n W) {pl f : Nat} (hp : pl ≤ 65536) (hf : Bm.IsFind (Bm.bit W) n pl (f : Nat)) : Pur Tryd.prog 83 #[.pointer (some ⟨P, 0, none⟩), .int .i64 pl] w (.tuple #[.int .i64 (f : Nat), .int .i64 ((Bm.runE W n f : Nat) - (f : Nat) : Int)]) := by
  unfold Pur
  have hx : f < n ∧ Bm.bit W f = true := by
    rcases hf with ⟨h1, -⟩ | ⟨j, h1, h2, h3, h4, -⟩
    · omega
    · obtain rfl : f = j := by omega
      exact ⟨h3, h4⟩
  have hmx := h.hm.ok.max
  have hfd := rfind_true h.hr (f := ((pl : Nat) : Int)) (wf_nat (by omega))
  rw [Int.toNat_natCast, ← hf.eq] at hfd
  obtain ⟨hr1, hr2, -, -, hr5⟩ := Bm.runE_is (W := W) hx.1 hx.2
  obtain ⟨E, hE⟩ : ∃ E, E = Bm.runE W n f := ⟨_, rfl⟩
  rw [← hE] at hr1 hr2 hr5 ⊢
  have hfe : ∀ w1, Below w.heap.size w w1 → Pur Tryd.prog 61 #[.pointer (some ⟨r, 0, none⟩), .int .i64 (f : Nat), .bool false] w1 (.int .i64 (Bm.find (fun t => !Bm.bit W t) n f)) := fun w1 hb => by
    have h1 := rfind_false (h.hr.below hb) (f := ((f : Nat) : Int)) (wf_nat (by omega))
    rw [Int.toNat_natCast] at h1
    exact h1
  obtain ⟨v, hv⟩ : ∃ v, v = Bm.find (fun t => !Bm.bit W t) n f := ⟨_, rfl⟩
  rw [← hv] at hr5 hfe
  have HH := Lib.hid h
  have HFD := Lib.hid hfd
  have HFE := Lib.hid hfe
  have cP := h.hP.cell (i := 1) rfl
  have hf0 : (0 : Int) ≤ (f : Int) := Int.natCast_nonneg f
  have hfE : (f : Int) < (E : Int) := by omega
  have hE9 : (E : Int) ≤ 65536 := by omega
  have hEn0 : ¬ (E : Int) < 0 := by omega
  clear h hp hf hfd hx hE hv hfe
  rcases hr5 with ⟨rfl, hEn⟩ | rfl
  · have HEN := Lib.hid hEn
    clear hEn hmx
    go_enter Tryd.func83, Tryd.ntmps83
    go_wp2_with (first
      | (go_at_call_has 61 (Value.bool true); refine HFD.out.out.mono ?_; rintro e w1 ⟨rfl, hb1⟩
         have h1 := HH.out.below hb1
         have cP1 := h1.hP.cell (i := 1) rfl
         have HB1 := Lib.hid hb1
         clear hb1 h1)
      | (go_at_call_has 61 (Value.bool false); refine (HFE.out w1 HB1.out).out.mono ?_; rintro e w2 ⟨rfl, hb2⟩
         have h2 := (HH.out.below HB1.out).below hb2
         have cP2 := h2.hP.cell (i := 1) rfl
         have cr2 := h2.hr.hs.cell (i := 0) rfl
         rw [Bm.bools_length, ← HEN.out] at cr2
         have lr2 := heap_lt h2.hr.hs
         have HB2 := Lib.hid hb2
         clear hb2 h2)
      | fail)
    refine bodyPost_ret (results_tmp2 rfl _ _ _) rfl ?_
    exact ⟨rfl, HB1.out.trans (HB2.out.mono HB1.out.size)⟩
  · go_enter Tryd.func83, Tryd.ntmps83
    go_wp2_with (first
      | (go_at_call_has 61 (Value.bool true); refine HFD.out.out.mono ?_; rintro e w1 ⟨rfl, hb1⟩
         have h1 := HH.out.below hb1
         have cP1 := h1.hP.cell (i := 1) rfl
         have HB1 := Lib.hid hb1
         clear hb1 h1)
      | (go_at_call_has 61 (Value.bool false); refine (HFE.out w1 HB1.out).out.mono ?_; rintro e w2 ⟨rfl, hb2⟩
         have HB2 := Lib.hid hb2
         clear hb2)
      | fail)
    refine bodyPost_ret (results_tmp2 rfl _ _ _) rfl ?_
    exact ⟨rfl, HB1.out.trans (HB2.out.mono HB1.out.size)⟩
end
end Go.Proofs.YtckbckdaffdjmaaDoor

/- Union: what it makes; the document's. -/
namespace Go.Proofs.YtckbckdaffdjmaaDoor
open Go.RowKit
set_option maxRecDepth 100000
set_option linter.unusedVariables false
set_option linter.unusedSimpArgs false

namespace Bm
/-- The first list's error that may not stand. -/
def unE (n : Nat) : List (List UInt64) → Nat
  | [] => 0
  | V :: r => if validE n V = 0 then unE n r else validE n V
def unErr (n : Int) (Vs : List (List UInt64)) : Nat := if n < 1 ∨ 65536 < n then 1 else unE n.toNat Vs
def unAll (n : Nat) (Vs : List (List UInt64)) : List UInt64 := Vs.foldl mer (List.replicate (room n) 0)
def unR (n : Int) (Vs : List (List UInt64)) : List UInt64 := if unErr n Vs = 0 then unAll n.toNat Vs else []
theorem unE_at {n : Nat} : ∀ {Vs : List (List UInt64)} {i : Nat} {V : List UInt64}, (∀ (j : Nat) (U : List UInt64), j < i → Vs[j]? = some U → validE n U = 0) → Vs[i]? = some V → validE n V ≠ 0 → unE n Vs = validE n V
  | [], i, V, _, h, _ => by simp at h
  | U :: r, 0, V, _, h, hv => by
    simp only [List.getElem?_cons_zero, Option.some.injEq] at h
    subst h
    rw [unE, if_neg hv]
  | U :: r, i + 1, V, hb, h, hv => by
    rw [unE, if_pos (hb 0 U (Nat.succ_pos _) rfl)]
    exact unE_at (Vs := r) (i := i) (V := V) (fun j W hj hw => hb (j + 1) W (by omega) hw) (by simpa using h) hv
theorem unE_zero {n : Nat} : ∀ {Vs : List (List UInt64)}, (∀ (j : Nat) (U : List UInt64), Vs[j]? = some U → validE n U = 0) → unE n Vs = 0
  | [], _ => rfl
  | U :: r, hb => by
    rw [unE, if_pos (hb 0 U rfl)]
    exact unE_zero (Vs := r) fun j W hw => hb (j + 1) W hw
theorem unAll_next {n : Nat} {Vs : List (List UInt64)} {i : Nat} {V : List UInt64} (h : Vs[i]? = some V) : unAll n (Vs.take (i + 1)) = mer (unAll n (Vs.take i)) V := by
  unfold unAll
  rw [List.take_add_one, h, List.foldl_append]
  rfl
theorem Ok.ext {n : Nat} {A B : List UInt64} (hA : Ok n A) (hB : Ok n B) (h : ∀ t, bit A t = bit B t) : A = B := by
  refine getD_extU (hA.len.trans hB.len.symm) fun k => ?_
  refine UInt64.toNat_inj.1 (Nat.eq_of_testBit_eq fun j => ?_)
  by_cases hj : j < 64
  · have h1 := h (64 * k + j)
    unfold bit at h1
    rw [show (64 * k + j) / 64 = k by omega, show (64 * k + j) % 64 = j by omega] at h1
    exact h1
  · rw [Nat.testBit_lt_two_pow (Nat.lt_of_lt_of_le (UInt64.toNat_lt _) (Nat.pow_le_pow_right (by decide) (show 64 ≤ j by omega))), Nat.testBit_lt_two_pow (Nat.lt_of_lt_of_le (UInt64.toNat_lt _) (Nat.pow_le_pow_right (by decide) (show 64 ≤ j by omega)))]
theorem unAll_ok {n : Nat} (h1 : 1 ≤ n) (h2 : n ≤ 65536) : ∀ {Vs : List (List UInt64)} {Z : List UInt64}, Ok n Z → (∀ (j : Nat) (U : List UInt64), Vs[j]? = some U → validE n U = 0) → Ok n (Vs.foldl mer Z)
  | [], Z, hZ, _ => hZ
  | U :: r, Z, hZ, hb => unAll_ok (Vs := r) (Z := mer Z U) h1 h2 (mer_ok hZ (ok_of_valid h1 h2 (hb 0 U rfl))) fun j W hw => hb (j + 1) W hw
end Bm
/-- A slice of lists of words. -/
def SU (w : World) (v : Value) (Vs : List (List UInt64)) : Prop :=
  ∃ q c, v = .slice q Vs.length c ∧ Vs.length ≤ 5864062014805 ∧ ∀ (i : Nat) (V : List UInt64), Vs[i]? = some V → ∃ g off u, q = some ⟨g, off, none⟩ ∧ g < w.heap.size ∧ w.cell? ⟨g, off + i, none⟩ = some u ∧ RU w u V
theorem SU.below {w w' : World} {v : Value} {Vs : List (List UInt64)} (h : SU w v Vs) (hb : Below w.heap.size w w') : SU w' v Vs := by
  obtain ⟨q, c, e, hl, hr⟩ := h
  refine ⟨q, c, e, hl, fun i V hV => ?_⟩
  obtain ⟨g, off, u, h1, h2, h3, h4⟩ := hr i V hV
  exact ⟨g, off, u, h1, Nat.lt_of_lt_of_le h2 hb.size, ((bcell hb).1 g _ h2).trans h3, h4.below hb⟩
/-- What Union leaves. -/
def UnP (w : World) (n : Int) (Vs : List (List UInt64)) (e : Ending) (w' : World) : Prop := ∃ v', e = .returned (.tuple #[v', .int .i64 (Bm.unErr n Vs : Nat)]) ∧ OU w.heap.size w' v' (Bm.unR n Vs) ∧ Below w.heap.size w w'
set_option maxHeartbeats 8000000 in
theorem runion_calls {w : World} {n : Int} (hn : (Lit.int .i64 n).wf = true) {v : Value} {Vs : List (List UInt64)} (hs : SU w v Vs) : Calls Tryd.prog 20 #[.int .i64 n, v] w (UnP w n Vs) := by
  have HS := Lib.hid hs
  obtain ⟨q, c, hse, hsl, -⟩ := hs
  obtain ⟨M, hM⟩ : ∃ M, M = Vs.length := ⟨_, rfl⟩
  have HM := Lib.hid hM
  rw [← hM] at hse hsl
  subst hse
  clear hM
  by_cases hr : n < 1 ∨ 65536 < n
  · have hne := (rnew_err (w := w) hn hr)
    have HE := Lib.hid hne
    have HR : Hid (Bm.unErr n Vs = 1) := Lib.hid (by unfold Bm.unErr; rw [if_pos hr])
    clear hne hr
    go_enter Tryd.func20, Tryd.ntmps20
    go_wp2_with (first | (go_at_call 57; refine HE.out.out.mono ?_; rintro e w1 ⟨rfl, hb1⟩) | fail)
    refine bodyPost_ret (results_tmp2 rfl _ _ _) rfl ?_
    refine ⟨.slice none 0 0, by rw [HR.out]; rfl, ?_, hb1⟩
    rw [Bm.unR, HR.out, if_neg (by decide)]
    exact OU.nil_ _ _
  · obtain ⟨m, rfl⟩ : ∃ m : Nat, n = m := ⟨n.toNat, by omega⟩
    have h1 : 1 ≤ m := by omega
    have h2 : m ≤ 65536 := by omega
    have HUE : Hid (Bm.unErr (m : Int) Vs = Bm.unE m Vs) := Lib.hid (by unfold Bm.unErr; rw [if_neg hr, Int.toNat_natCast])
    have hne := rnew_calls (w := w) (n := m) h1 h2
    have HE := Lib.hid hne
    have H12 := Lib.hid (And.intro h1 h2)
    clear hne hr h1 h2 hn
    go_enter Tryd.func20, Tryd.ntmps20
    go_upto_region 4 with (first
      | (go_at_call 57
         refine HE.out.mono ?_
         rintro e w1 ⟨r, bb, rfl, hrm, hr1, hr2, hb1⟩
         have HRM := Lib.hid hrm
         have HB1 := Lib.hid hb1
         have HR12 := Lib.hid (And.intro hr1 hr2)
         clear hrm hb1 hr1 hr2)
      | fail)
    have hM9 : (M : Int) ≤ 5864062014805 := by omega
    go_wp2_with fail
    refine wp_loop_count (fun i a X => Is (fun U => ⟨#[U 0, .slice q M c, U 2, U 3, .slice none 0 0, .int .i64 0, .pointer (some ⟨r, 0, none⟩), U 7, .int .i64 i, U 9, U 10, U 11, U 12, U 13, U 14, U 15, U 16, U 17, U 18, U 19, U 20, U 21, U 22, U 23, U 24, U 25, U 26, U 27, U 28, U 29, U 30, U 31, U 32, U 33, U 34, U 35, U 36], []⟩) a ∧ (∀ (j : Nat) (U : List UInt64), j < i → Vs[j]? = some U → Bm.validE m U = 0) ∧ RM X r bb (Bm.bools m (Bm.unAll m (Vs.take i))) ∧ Below w.heap.size w X) M ⟨isU (fun U => ⟨#[U 0, .slice q M c, U 2, U 3, .slice none 0 0, .int .i64 0, .pointer (some ⟨r, 0, none⟩), U 7, .int .i64 0, U 9, U 10, U 11, U 12, U 13, U 14, U 15, U 16, U 17, U 18, U 19, U 20, U 21, U 22, U 23, U 24, U 25, U 26, U 27, U 28, U 29, U 30, U 31, U 32, U 33, U 34, U 35, U 36], []⟩) rfl, fun j U hj => absurd hj (Nat.not_lt_zero _), ?_, HB1.out⟩ ?_ ?_
    · have := HRM.out
      rw [← Bm.bools_zero] at this
      exact this
    · rintro i a X hi ⟨hU, hval, hrm, hbel⟩
      obtain ⟨U, rfl⟩ := hU.out
      obtain ⟨q', c', e', -, hr⟩ := HS.out.below hbel
      simp only [Value.slice.injEq] at e'
      obtain ⟨rfl, -, rfl⟩ := e'
      obtain ⟨V, hV⟩ : ∃ V, Vs[i]? = some V := ⟨_, List.getElem?_eq_getElem (by rw [← HM.out]; exact hi)⟩
      obtain ⟨g, off, u, rfl, hg, hcell, hru⟩ := hr i V hV
      have hok : Bm.Ok m (Bm.unAll m (Vs.take i)) := Bm.unAll_ok H12.out.1 H12.out.2 (Bm.ok_zero H12.out.1 H12.out.2) fun j U hj => by
        have hjl := (List.getElem?_eq_some_iff.1 hj).1
        rw [List.length_take] at hjl
        rw [List.getElem?_take, if_pos (by omega)] at hj
        exact hval j U (by omega) hj
      have hmg := rmerge_u hok hrm hru
      obtain ⟨pu, cu, eu⟩ := hru.form
      generalize V.length = LV at eu
      subst eu
      have hi' : (i : Int) < (M : Int) := by exact_mod_cast hi
      have hi0 : (0 : Int) ≤ (i : Int) := Int.natCast_nonneg i
      have HMG := Lib.hid hmg
      have HVAL := Lib.hid hval
      have HVV := Lib.hid hV
      have HBEL := Lib.hid hbel
      have HUA : Hid (Bm.merW m (Bm.unAll m (Vs.take i)) V = if Bm.validE m V = 0 then Bm.unAll m (Vs.take (i + 1)) else Bm.unAll m (Vs.take i)) := Lib.hid (by unfold Bm.merW; rw [Bm.unAll_next hV])
      clear hU hval hrm hbel hr hV hru hok hmg
      by_cases hv : Bm.validE m V = 0
      · have HV0 := Lib.hid hv
        rw [hv] at HMG
        clear hv
        go_wp2_with (first
          | (go_at_call 66
             refine HMG.out.mono ?_
             rintro e X2 ⟨rfl, hrm2, hm2⟩
             have HRM2 := Lib.hid hrm2
             have HM2 := Lib.hid hm2
             clear hrm2 hm2)
          | fail)
        refine ⟨isU (fun U => ⟨#[U 0, .slice (some ⟨g, off, none⟩) M c, U 2, U 3, .slice none 0 0, .int .i64 0, .pointer (some ⟨r, 0, none⟩), U 7, .int .i64 (i + 1 : Nat), U 9, U 10, U 11, U 12, U 13, U 14, U 15, U 16, U 17, U 18, U 19, U 20, U 21, U 22, U 23, U 24, U 25, U 26, U 27, U 28, U 29, U 30, U 31, U 32, U 33, U 34, U 35, U 36], []⟩) rfl, fun j U hj hu => ?_, ?_, HBEL.out.trans (HM2.out.below HBEL.out.size fun k e => by rw [e]; exact HR12.out.2)⟩
        · rcases Nat.lt_or_ge j i with h | h
          · exact HVAL.out j U h hu
          · obtain rfl : j = i := by omega
            rw [HVV.out] at hu
            injection hu with hu
            subst hu
            exact HV0.out
        · have := HRM2.out
          rw [HUA.out, if_pos HV0.out] at this
          exact this
      · have hz : ((Bm.validE m V : Nat) : Int) ≠ 0 := by omega
        have HE2 : Hid (Bm.unErr (m : Int) Vs = Bm.validE m V ∧ Bm.validE m V ≠ 0) := Lib.hid ⟨HUE.out.trans (Bm.unE_at HVAL.out HVV.out hv), hv⟩
        obtain ⟨Er, hEr⟩ : ∃ Er, Er = Bm.validE m V := ⟨_, rfl⟩
        rw [← hEr] at HMG HE2 hz
        have hzb : (((Er : Nat) : Int) != 0) = true := bne_iff_ne.2 hz
        clear hv hEr HUA hz
        go_wp2_with (first
          | (go_at_call 66
             refine HMG.out.mono ?_
             rintro e X2 ⟨rfl, hrm2, hm2⟩
             have HM2 := Lib.hid hm2
             clear hrm2 hm2)
          | fail)
        refine bodyPost_ret (results_tmp2 rfl _ _ _) rfl ?_
        refine ⟨.slice none 0 0, by rw [HE2.out.1]; rfl, ?_, HBEL.out.trans (HM2.out.below HBEL.out.size fun k e => by rw [e]; exact HR12.out.2)⟩
        rw [Bm.unR, HE2.out.1, if_neg HE2.out.2]
        exact OU.nil_ _ _
    · rintro a X ⟨hU, hval, hrm, hbel⟩
      obtain ⟨U, rfl⟩ := hU.out
      have hall : ∀ (j : Nat) (U : List UInt64), Vs[j]? = some U → Bm.validE m U = 0 := fun j U hj => hval j U (by rw [HM.out]; exact (List.getElem?_eq_some_iff.1 hj).1) hj
      rw [HM.out, List.take_length] at hrm
      have hok : Bm.Ok m (Bm.unAll m Vs) := Bm.unAll_ok H12.out.1 H12.out.2 (Bm.ok_zero H12.out.1 H12.out.2) hall
      have hwd := rwords_calls hrm
      rw [Bm.pack_bools hok] at hwd
      have HW := Lib.hid hwd
      have HZ : Hid (Bm.unErr (m : Int) Vs = 0) := Lib.hid (HUE.out.trans (Bm.unE_zero hall))
      have HOK := Lib.hid hok
      have HBEL := Lib.hid hbel
      clear hU hval hrm hbel hall hok hwd
      go_wp2_with (first
        | (go_at_call 63
           refine HW.out.mono ?_
           rintro e X2 ⟨v', rfl, hnew⟩
           have HN := Lib.hid hnew
           clear hnew)
        | fail)
      refine bodyPost_ret (results_tmp2 rfl _ _ _) rfl ?_
      have hlen : (Bm.unAll m Vs).length ≤ 17592186044416 := by rw [HOK.out.len]; unfold Bm.room; have := HOK.out.max; omega
      refine ⟨v', by rw [HZ.out]; rfl, ?_, HBEL.out.trans (HN.out.bel.mono HBEL.out.size)⟩
      rw [Bm.unR, if_pos HZ.out, Int.toNat_natCast]
      exact (HN.out.ou hlen).more HBEL.out.size
end Go.Proofs.YtckbckdaffdjmaaDoor
