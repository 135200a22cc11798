/- The identifiers tell the truth: every play keeps the shapes. No program in sight. -/
import Derived.Test.YtboanmhibbhceaaTruthLaw2
namespace Go.Proofs.Ytboanmhibbhceaa
set_option linter.unusedVariables false
namespace Truth

structure St where
  a : Nd
  b : Nd
  next : Int
  number : Int
  source : Int
  taken : Bool
  half : Bool

def St.nd (s : St) (i : Int) : Nd := if i = 0 then s.a else s.b
def St.put (s : St) (i : Int) (n : Nd) : St := if i = 0 then { s with a := n } else { s with b := n }

/-- A resync begins, with that source. -/
def St.begin (s : St) (m : Int) : St :=
  { s.put m ⟨Spec.beginSource (s.nd m).g (fresh m (s.number + 1)), (s.nd m).whole, (s.nd m).has⟩ with number := s.number + 1, source := m, taken := false, half := false }
/-- The target has heard. -/
def St.heard (s : St) : St :=
  { s.put (1 - s.source) ⟨Spec.beginTarget (s.nd (1 - s.source)).g (s.nd s.source).g, false, (s.nd (1 - s.source)).has⟩ with taken := true }
/-- The source notes the end. -/
def St.halved (s : St) : St :=
  { (s.put s.source ⟨Spec.endSource (s.nd s.source).g, (s.nd s.source).whole, (s.nd s.source).has⟩).put (1 - s.source) ⟨(s.nd (1 - s.source)).g, (s.nd (1 - s.source)).whole, (s.nd s.source).has⟩ with half := true }
/-- The target notes it too. -/
def St.ended (s : St) : St :=
  { s.put (1 - s.source) ⟨Spec.endTarget (s.nd s.source).g, true, (s.nd (1 - s.source)).has⟩ with source := -1 }
/-- A write more. -/
def St.write (s : St) (n : Int) (g : G) (w : Bool) (number : Int) : St :=
  { s.put n ⟨g, w, (s.nd n).has ++ [s.next + 1]⟩ with next := s.next + 1, number := number }

def St.alone (s : St) (n : Int) : St :=
  if (s.nd n).g.b = 0 then s.write n (Spec.rotate (s.nd n).g (fresh n (s.number + 1))) (s.nd n).whole (s.number + 1) else s.write n (s.nd n).g (s.nd n).whole s.number
def St.force (s : St) (n : Int) : St := s.write n (Spec.rotate (s.nd n).g (fresh n (s.number + 1))) true (s.number + 1)

def Src (m n : Nd) (taken half : Bool) : Prop := (taken = false ∧ half = false ∧ Begun m n) ∨ (taken = true ∧ half = false ∧ Taken m n) ∨ (taken = true ∧ half = true ∧ Done m n)

structure Inv (s : St) : Prop where
  shape : Shape s.a s.b
  src : s.source = -1 ∨ (s.source = 0 ∧ Src s.a s.b s.taken s.half) ∨ (s.source = 1 ∧ Src s.b s.a s.taken s.half)
  ka : knownG s.number s.a.g
  kb : knownG s.number s.b.g
  na : ∀ x, x ∈ s.a.has → x ≤ s.next
  nb : ∀ x, x ∈ s.b.has → x ≤ s.next

theorem Begun.shape {m n : Nd} (h : Begun m n) : Shape m n := by
  rcases h.1 with h | h | h
  · exact .inr (.inl h)
  · exact .inr (.inr (.inr (.inl h)))
  · exact .inr (.inr (.inr (.inr (.inl h))))

/-! ### what is known stays known -/
variable {k : Int} {g h : G} {f x : Int}
theorem known_lay (hg : knownG k g) (hx : known k x) : knownG k (Spec.layG g x) := by
  unfold Spec.layG
  split
  · exact hg
  · exact ⟨hg.1, hg.2.1, hx, hg.2.2.1⟩
theorem known_rotate0 (hg : knownG k g) (hf : known k f) (hb : g.b = 0) : knownG k (Spec.rotate g f) := by
  rw [rotate_zero hb]; exact ⟨hf, hg.1, hg.2.2.1, hg.2.2.2⟩
theorem known_begin (hg : knownG k g) (hf : known k f) (hc : ok g.c) : knownG k (Spec.beginSource g f) := by
  rcases begin_cases (f := f) hc with ⟨_, e⟩ | ⟨h0, e⟩ | ⟨_, e⟩
  · rw [e]; exact ⟨hg.1, hf, hg.2.2.1, hg.2.2.2⟩
  · rw [e]; exact known_rotate0 hg hf h0
  · rw [e]; exact hg
theorem known_target (hg : knownG k g) (hh : knownG k h) : knownG k (Spec.beginTarget g h) := by
  have hl := known_lay hg hg.1
  unfold Spec.beginTarget
  split
  · exact hg
  · split
    · exact ⟨hh.2.1, known_zero, hg.2.2.1, hg.2.2.2⟩
    · exact ⟨hh.2.1, known_zero, hl.2.2.1, hl.2.2.2⟩
theorem known_endSource (hg : knownG k g) : knownG k (Spec.endSource g) := by
  have hl := known_lay hg hg.2.1
  exact ⟨hl.1, known_zero, hl.2.2.1, hl.2.2.2⟩
theorem known_endTarget (hg : knownG k g) : knownG k (Spec.endTarget g) := ⟨hg.1, known_zero, hg.2.2.1, hg.2.2.2⟩

/-! ### the pair, oriented: m is the node that acts -/
theorem alone_shape {m n : Nd} {j : Int} (h : Shape m n) (hw : m.whole = true) (hj : j = 0 ∨ j = 1) (km : knownG k m.g) (kn : knownG k n.g) (hm : x ∉ m.has) (hn : x ∉ n.has) :
    Shape ⟨if m.g.b = 0 then Spec.rotate m.g (fresh j (k + 1)) else m.g, m.whole, m.has ++ [x]⟩ n := by
  have hf := @fresh_ok j (k + 1) hj
  have ne : ∀ {y}, known k y → fresh j (k + 1) ≠ y := fun hy => fresh_ne hj hy
  rcases h with h | h | h | h | h | h | h
  · rw [if_pos h.mb]; exact .inr (.inl (h.write hf (ne kn.1) (ne kn.2.2.1) (ne kn.2.2.2) hn))
  · rw [if_neg h.okb.1]; exact .inr (.inl (h.write hn))
  · rw [if_pos h.nb]; exact .inr (.inr (.inr (.inl (h.other hf (ne kn.1) (ne kn.2.1) (ne kn.2.2.1) (ne kn.2.2.2) hn).symm)))
  · rw [if_neg h.okb.1]; exact .inr (.inr (.inr (.inl (h.write hn))))
  · by_cases hb : m.g.b = 0
    · rw [if_pos hb]; exact .inr (.inr (.inr (.inr (.inl (h.rotate hb hf (ne kn.1) (ne km.1) _)))))
    · rw [if_neg hb]; exact .inr (.inr (.inr (.inr (.inl (h.data _)))))
  · rw [h.nw] at hw; cases hw
  · rw [h.mw] at hw; cases hw

theorem begin_shape {m n : Nd} {j : Int} (h : Ahead m n ∨ Both m n ∨ Half m n) (hj : j = 0 ∨ j = 1) (km : knownG k m.g) (kn : knownG k n.g) : Begun ⟨Spec.beginSource m.g (fresh j (k + 1)), m.whole, m.has⟩ n := by
  have hf := @fresh_ok j (k + 1) hj
  have ne : ∀ {y}, known k y → fresh j (k + 1) ≠ y := fun hy => fresh_ne hj hy
  rcases h with h | h | h
  · exact h.begins
  · exact h.begins
  · exact h.begins hf (ne kn.1) (ne km.1)
theorem begin_okc {m n : Nd} (h : Ahead m n ∨ Both m n ∨ Half m n) : ok m.g.c := by
  rcases h with h | h | h
  · exact h.okc
  · exact h.okm
  · exact h.okc

theorem bound {l : List Int} {y : Int} (h : ∀ x, x ∈ l → x ≤ y) : y + 1 ∉ l := fun hm => by have := h _ hm; omega
theorem bound_app {l : List Int} {y : Int} (h : ∀ x, x ∈ l → x ≤ y) : ∀ x, x ∈ l ++ [y + 1] → x ≤ y + 1 := fun x hx => by
  rcases List.mem_append.1 hx with hx | hx
  · have := h _ hx; omega
  · have : x = y + 1 := by simpa using hx
    omega
theorem bound_more {l : List Int} {y : Int} (h : ∀ x, x ∈ l → x ≤ y) : ∀ x, x ∈ l → x ≤ y + 1 := fun x hx => by have := h _ hx; omega

/-! ### the steps of a play -/
variable {s : St}

theorem Inv.alone (i : Inv s) {n : Int} (hn : n = 0 ∨ n = 1) (hs : s.source < 0) (hw : (s.nd n).whole = true) : Inv (s.alone n) := by
  have hs1 : s.source = -1 := by rcases i.src with h | ⟨h, _⟩ | ⟨h, _⟩ <;> omega
  rcases hn with rfl | rfl
  · have hw' : s.a.whole = true := hw
    have sh := alone_shape (j := 0) (x := s.next + 1) i.shape hw' (.inl rfl) i.ka i.kb (bound i.na) (bound i.nb)
    unfold St.alone
    show Inv (if s.a.g.b = 0 then _ else _)
    split
    · rename_i hb
      rw [if_pos hb] at sh
      exact ⟨sh, .inl hs1, known_rotate0 (knownG_mono i.ka) (known_fresh (.inl rfl)) hb, knownG_mono i.kb, bound_app i.na, bound_more i.nb⟩
    · rename_i hb
      rw [if_neg hb] at sh
      exact ⟨sh, .inl hs1, i.ka, i.kb, bound_app i.na, bound_more i.nb⟩
  · have hw' : s.b.whole = true := hw
    have sh := (alone_shape (j := 1) (x := s.next + 1) i.shape.symm hw' (.inr rfl) i.kb i.ka (bound i.nb) (bound i.na)).symm
    unfold St.alone
    show Inv (if s.b.g.b = 0 then _ else _)
    split
    · rename_i hb
      rw [if_pos hb] at sh
      exact ⟨sh, .inl hs1, knownG_mono i.ka, known_rotate0 (knownG_mono i.kb) (known_fresh (.inr rfl)) hb, bound_more i.na, bound_app i.nb⟩
    · rename_i hb
      rw [if_neg hb] at sh
      exact ⟨sh, .inl hs1, i.ka, i.kb, bound_more i.na, bound_app i.nb⟩

theorem Inv.force (i : Inv s) {n : Int} (hn : n = 0 ∨ n = 1) (hs : s.source < 0) (ha : s.a.whole = false) (hb : s.b.whole = false) : Inv (s.force n) := by
  have hs1 : s.source = -1 := by rcases i.src with h | ⟨h, _⟩ | ⟨h, _⟩ <;> omega
  have hnew : New s.a s.b := by
    rcases i.shape with h | h | h | h | h | h | h
    · rw [h.mw] at ha; cases ha
    · rw [h.mw] at ha; cases ha
    · rw [h.mw] at hb; cases hb
    · rw [h.mw] at ha; cases ha
    · rw [h.mw] at ha; cases ha
    · rw [h.mw] at hb; cases hb
    · exact h
  rcases hn with rfl | rfl
  · exact ⟨.inr (.inr (.inr (.inr (.inl (hnew.force (fresh_ok (.inl rfl)) _))))), .inl hs1, known_rotate0 (knownG_mono i.ka) (known_fresh (.inl rfl)) hnew.mb, knownG_mono i.kb, bound_app i.na, bound_more i.nb⟩
  · exact ⟨.inr (.inr (.inr (.inr (.inr (.inl (hnew.symm.force (fresh_ok (.inr rfl)) _)))))), .inl hs1, knownG_mono i.ka, known_rotate0 (knownG_mono i.kb) (known_fresh (.inr rfl)) hnew.nb, bound_more i.na, bound_app i.nb⟩

theorem Inv.break (i : Inv s) : Inv { s with source := -1 } := ⟨i.shape, .inl rfl, i.ka, i.kb, i.na, i.nb⟩

theorem Inv.begin0 (i : Inv s) (h : Ahead s.a s.b ∨ Both s.a s.b ∨ Half s.a s.b) : Inv (s.begin 0) := by
  have hb := begin_shape (j := 0) h (.inl rfl) i.ka i.kb
  exact ⟨hb.shape, .inr (.inl ⟨rfl, .inl ⟨rfl, rfl, hb⟩⟩), known_begin (knownG_mono i.ka) (known_fresh (.inl rfl)) (begin_okc h), knownG_mono i.kb, i.na, i.nb⟩
theorem Inv.begin1 (i : Inv s) (h : Ahead s.b s.a ∨ Both s.b s.a ∨ Half s.b s.a) : Inv (s.begin 1) := by
  have hb := begin_shape (j := 1) h (.inr rfl) i.kb i.ka
  exact ⟨hb.shape.symm, .inr (.inr ⟨rfl, .inl ⟨rfl, rfl, hb⟩⟩), knownG_mono i.ka, known_begin (knownG_mono i.kb) (known_fresh (.inr rfl)) (begin_okc h), i.na, i.nb⟩

/-- Both are alike, and one is found to have more. -/
def St.found (s : St) (n : Int) : St := ({ s.put n ⟨(s.nd n).g, (s.nd n).whole, (s.nd n).has ++ [s.next + 1]⟩ with next := s.next + 1 }).begin n

theorem Inv.found (i : Inv s) {n : Int} (hn : n = 0 ∨ n = 1) (h : Synced s.a s.b) : Inv (s.found n) := by
  have ne : ∀ {j y}, (j = 0 ∨ j = 1) → known s.number y → fresh j (s.number + 1) ≠ y := fun hj hy => fresh_ne hj hy
  rcases hn with rfl | rfl
  · have hb := h.forced (x := s.next + 1) (fresh_ok (.inl rfl)) (ne (.inl rfl) i.kb.1) (ne (.inl rfl) i.kb.2.2.1) (ne (.inl rfl) i.kb.2.2.2) (bound i.nb)
    exact ⟨hb.shape, .inr (.inl ⟨rfl, .inl ⟨rfl, rfl, hb⟩⟩), known_begin (knownG_mono i.ka) (known_fresh (.inl rfl)) h.okc, knownG_mono i.kb, bound_app i.na, bound_more i.nb⟩
  · have hb := h.symm.forced (x := s.next + 1) (fresh_ok (.inr rfl)) (ne (.inr rfl) i.ka.1) (ne (.inr rfl) i.ka.2.2.1) (ne (.inr rfl) i.ka.2.2.2) (bound i.na)
    exact ⟨hb.shape.symm, .inr (.inr ⟨rfl, .inl ⟨rfl, rfl, hb⟩⟩), knownG_mono i.ka, known_begin (knownG_mono i.kb) (known_fresh (.inr rfl)) h.symm.okc, bound_more i.na, bound_app i.nb⟩

theorem Inv.heard (i : Inv s) (hs : 0 ≤ s.source) (ht : s.taken = false) : Inv s.heard := by
  rcases i.src with h | ⟨h, src⟩ | ⟨h, src⟩
  · omega
  · rcases src with ⟨_, hh, hb⟩ | ⟨t, _⟩ | ⟨t, _⟩
    · have ht := hb.taken
      unfold St.heard
      rw [h]
      exact ⟨.inr (.inr (.inr (.inr (.inl ht.half)))), .inr (.inl ⟨h, .inr (.inl ⟨rfl, hh, ht⟩)⟩), i.ka, known_target i.kb i.ka, i.na, i.nb⟩
    · rw [ht] at t; cases t
    · rw [ht] at t; cases t
  · rcases src with ⟨_, hh, hb⟩ | ⟨t, _⟩ | ⟨t, _⟩
    · have ht := hb.taken
      unfold St.heard
      rw [h]
      exact ⟨.inr (.inr (.inr (.inr (.inr (.inl ht.half))))), .inr (.inr ⟨h, .inr (.inl ⟨rfl, hh, ht⟩)⟩), known_target i.ka i.kb, i.kb, i.na, i.nb⟩
    · rw [ht] at t; cases t
    · rw [ht] at t; cases t

theorem Inv.halved (i : Inv s) (hs : 0 ≤ s.source) (ht : s.taken = true) (hh : s.half = false) : Inv s.halved := by
  rcases i.src with h | ⟨h, src⟩ | ⟨h, src⟩
  · omega
  · rcases src with ⟨t, _⟩ | ⟨_, _, t⟩ | ⟨_, t, _⟩
    · rw [ht] at t; cases t
    · have hd := t.done (hs := s.a.has) (fun _ => Iff.rfl)
      unfold St.halved
      rw [h]
      exact ⟨.inr (.inr (.inr (.inr (.inl hd.half)))), .inr (.inl ⟨h, .inr (.inr ⟨ht, rfl, hd⟩)⟩), known_endSource i.ka, i.kb, i.na, i.na⟩
    · rw [hh] at t; cases t
  · rcases src with ⟨t, _⟩ | ⟨_, _, t⟩ | ⟨_, t, _⟩
    · rw [ht] at t; cases t
    · have hd := t.done (hs := s.b.has) (fun _ => Iff.rfl)
      unfold St.halved
      rw [h]
      exact ⟨.inr (.inr (.inr (.inr (.inr (.inl hd.half))))), .inr (.inr ⟨h, .inr (.inr ⟨ht, rfl, hd⟩)⟩), i.ka, known_endSource i.kb, i.nb, i.nb⟩
    · rw [hh] at t; cases t

theorem Inv.ended (i : Inv s) (hs : 0 ≤ s.source) (hh : s.half = true) : Inv s.ended := by
  rcases i.src with h | ⟨h, src⟩ | ⟨h, src⟩
  · omega
  · rcases src with ⟨_, t, _⟩ | ⟨_, t, _⟩ | ⟨_, _, t⟩
    · rw [hh] at t; cases t
    · rw [hh] at t; cases t
    · unfold St.ended
      rw [h]
      exact ⟨.inl t.ended, .inl rfl, i.ka, known_endTarget i.ka, i.na, i.nb⟩
  · rcases src with ⟨_, t, _⟩ | ⟨_, t, _⟩ | ⟨_, _, t⟩
    · rw [hh] at t; cases t
    · rw [hh] at t; cases t
    · unfold St.ended
      rw [h]
      exact ⟨.inl t.ended.symm, .inl rfl, known_endTarget i.kb, i.kb, i.na, i.nb⟩

/-- At every meeting the settled verdict is what the data ask for. -/
theorem Inv.meets (i : Inv s) : ∃ k r, verdict s.a s.b = (k, r, 0) ∧ 1 ≤ r ∧
    ((k = 0 ∧ truth s.a s.b = 0 ∧ Synced s.a s.b) ∨ (k = 0 ∧ truth s.a s.b = 4) ∨ ((k = 1 ∨ k = 3) ∧ truth s.a s.b = 1 ∧ (Ahead s.a s.b ∨ Both s.a s.b ∨ Half s.a s.b)) ∨ ((k = 2 ∨ k = 4) ∧ truth s.a s.b = 2 ∧ (Ahead s.b s.a ∨ Both s.b s.a ∨ Half s.b s.a)) ∨ (k = 5 ∧ truth s.a s.b = 3 ∧ Both s.a s.b)) := by
  rcases i.shape with h | h | h | h | h | h | h
  · exact ⟨0, 6, h.verdict, by decide, .inl ⟨rfl, h.truth, h⟩⟩
  · exact ⟨1, 9, h.verdict, by decide, .inr (.inr (.inl ⟨.inl rfl, h.truth, .inl h⟩))⟩
  · exact ⟨2, 9, h.verdict', by decide, .inr (.inr (.inr (.inl ⟨.inl rfl, h.truth', .inl h⟩)))⟩
  · exact ⟨5, 12, h.verdict, by decide, .inr (.inr (.inr (.inr ⟨rfl, h.truth, h⟩)))⟩
  · obtain ⟨z, hz, e | e⟩ := h.verdict
    · exact ⟨1, z, e, hz, .inr (.inr (.inl ⟨.inl rfl, h.truth, .inr (.inr h)⟩))⟩
    · exact ⟨3, z, e, hz, .inr (.inr (.inl ⟨.inr rfl, h.truth, .inr (.inr h)⟩))⟩
  · obtain ⟨z, hz, e | e⟩ := h.verdict'
    · exact ⟨2, z, e, hz, .inr (.inr (.inr (.inl ⟨.inl rfl, h.truth', .inr (.inr h)⟩)))⟩
    · exact ⟨4, z, e, hz, .inr (.inr (.inr (.inl ⟨.inr rfl, h.truth', .inr (.inr h)⟩)))⟩
  · exact ⟨0, 1, h.verdict, by decide, .inr (.inl ⟨rfl, h.truth⟩)⟩
end Truth
end Go.Proofs.Ytboanmhibbhceaa
