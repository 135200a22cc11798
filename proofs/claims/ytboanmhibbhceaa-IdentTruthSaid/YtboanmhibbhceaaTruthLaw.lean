/- The identifiers tell the truth: the plain law of a play of two nodes. No program in sight. -/
import Derived.Test.YtboanmhibbhceaaCompLaw
import Derived.Test.YtboanmhibbhceaaSettleSpec
namespace Go.Proofs.Ytboanmhibbhceaa
set_option linter.unusedVariables false
namespace Truth

/-- A node of a play: its identifiers, whether its data are of one moment, and which writes it has. -/
structure Nd where
  g : G
  whole : Bool
  has : List Int

def ok (x : Int) : Prop := x ≠ 0 ∧ x ≠ 4
/-- Identifiers made from numbers up to k, or not made at all. -/
def known (k x : Int) : Prop := x % 16 ≠ 8 ∨ x / 32 ≤ k
def knownG (k : Int) (g : G) : Prop := known k g.c ∧ known k g.b ∧ known k g.o ∧ known k g.p
def fresh (node k : Int) : Int := 32 * k + 16 * node + 8

theorem fresh_ok {node k : Int} (_ : node = 0 ∨ node = 1) : ok (fresh node k) := by unfold ok fresh; omega
theorem fresh_ne {node k x : Int} (h : node = 0 ∨ node = 1) (hx : known k x) : fresh node (k + 1) ≠ x := by
  unfold fresh
  rintro rfl
  rcases hx with hx | hx <;> omega
theorem known_fresh {node k : Int} (h : node = 0 ∨ node = 1) : known k (fresh node k) := by right; unfold fresh; omega
theorem known_mono {k x : Int} (h : known k x) : known (k + 1) x := by
  rcases h with h | h
  · exact .inl h
  · exact .inr (by omega)
theorem knownG_mono {k : Int} {g : G} (h : knownG k g) : knownG (k + 1) g := ⟨known_mono h.1, known_mono h.2.1, known_mono h.2.2.1, known_mono h.2.2.2⟩
theorem known_zero {k : Int} : known k 0 := .inl (by decide)

/-! ### the shapes -/
structure Synced (m n : Nd) : Prop where
  mw : m.whole = true
  nw : n.whole = true
  mb : m.g.b = 0
  nb : n.g.b = 0
  c : m.g.c = n.g.c
  okc : ok m.g.c
  has : ∀ x, x ∈ m.has ↔ x ∈ n.has

structure Ahead (m n : Nd) : Prop where
  mw : m.whole = true
  nw : n.whole = true
  nb : n.g.b = 0
  b : m.g.b = n.g.c
  okb : ok m.g.b
  okc : ok m.g.c
  c : m.g.c ≠ n.g.c
  o : m.g.c ≠ n.g.o
  p : m.g.c ≠ n.g.p
  sub : ∀ x, x ∈ n.has → x ∈ m.has
  more : ∃ x, x ∈ m.has ∧ x ∉ n.has

structure Both (m n : Nd) : Prop where
  mw : m.whole = true
  nw : n.whole = true
  b : m.g.b = n.g.b
  okb : ok m.g.b
  okm : ok m.g.c
  okn : ok n.g.c
  c : m.g.c ≠ n.g.c
  mcb : m.g.c ≠ m.g.b
  ncb : n.g.c ≠ m.g.b
  mo : m.g.c ≠ n.g.o
  mp : m.g.c ≠ n.g.p
  no : n.g.c ≠ m.g.o
  np : n.g.c ≠ m.g.p
  mmore : ∃ x, x ∈ m.has ∧ x ∉ n.has
  nmore : ∃ x, x ∈ n.has ∧ x ∉ m.has

structure Half (m n : Nd) : Prop where
  mw : m.whole = true
  nw : n.whole = false
  okc : ok m.g.c
  nb : n.g.b = 0
  c : m.g.c ≠ n.g.c
  cb : m.g.b ≠ 0 → m.g.c ≠ m.g.b
  rel : n.g.c = 4 ∨ (ok n.g.c ∧ (m.g.b = n.g.c ∨ m.g.o = n.g.c))

structure New (m n : Nd) : Prop where
  mw : m.whole = false
  nw : n.whole = false
  mc : m.g.c = 4
  nc : n.g.c = 4
  mb : m.g.b = 0
  nb : n.g.b = 0

theorem Synced.symm {m n : Nd} (h : Synced m n) : Synced n m := ⟨h.nw, h.mw, h.nb, h.mb, h.c.symm, by rw [← h.c]; exact h.okc, fun x => (h.has x).symm⟩
theorem Both.symm {m n : Nd} (h : Both m n) : Both n m :=
  ⟨h.nw, h.mw, h.b.symm, by rw [← h.b]; exact h.okb, h.okn, h.okm, h.c.symm, by rw [← h.b]; exact h.ncb, by rw [← h.b]; exact h.mcb, h.no, h.np, h.mo, h.mp, h.nmore, h.mmore⟩
theorem New.symm {m n : Nd} (h : New m n) : New n m := ⟨h.nw, h.mw, h.nc, h.mc, h.nb, h.mb⟩

/-- One of the shapes; m and n in either place. -/
def Shape (m n : Nd) : Prop := Synced m n ∨ Ahead m n ∨ Ahead n m ∨ Both m n ∨ Half m n ∨ Half n m ∨ New m n
theorem Shape.symm {m n : Nd} (h : Shape m n) : Shape n m := by
  rcases h with h | h | h | h | h | h | h
  · exact .inl h.symm
  · exact .inr (.inr (.inl h))
  · exact .inr (.inl h)
  · exact .inr (.inr (.inr (.inl h.symm)))
  · exact .inr (.inr (.inr (.inr (.inr (.inl h)))))
  · exact .inr (.inr (.inr (.inr (.inl h))))
  · exact .inr (.inr (.inr (.inr (.inr (.inr h.symm)))))

/-- While a node's Bitmap counts, the other's Current is unlike its own. -/
theorem Shape.apart {m n : Nd} (h : Shape m n) : (m.g.b = 0 ∧ n.g.b = 0) ∨ m.g.c ≠ n.g.c := by
  rcases h with h | h | h | h | h | h | h
  · exact .inl ⟨h.mb, h.nb⟩
  · exact .inr h.c
  · exact .inr h.c.symm
  · exact .inr h.c
  · exact .inr h.c
  · exact .inr h.c.symm
  · exact .inl ⟨h.mb, h.nb⟩

/-! ### one step of a node -/
/-- The node goes on alone. -/
def wrote (n : Nd) (g : G) (x : Int) : Nd := ⟨g, n.whole, n.has ++ [x]⟩

theorem mem_write {n : Nd} {g : G} {x y : Int} : y ∈ (wrote n g x).has ↔ y ∈ n.has ∨ y = x := by simp [wrote]

theorem rotate_zero {g : G} {f : Int} (h : g.b = 0) : Spec.rotate g f = ⟨f, g.c, g.o, g.p⟩ := by unfold Spec.rotate; rw [if_pos h]

variable {m n : Nd} {f x : Int}

/-- From the same data: one writes. -/
theorem Synced.write (h : Synced m n) (hf : ok f) (h1 : f ≠ n.g.c) (h2 : f ≠ n.g.o) (h3 : f ≠ n.g.p) (hx : x ∉ n.has) : Ahead (wrote m (Spec.rotate m.g f) x) n := by
  rw [rotate_zero h.mb]
  exact ⟨h.mw, h.nw, h.nb, h.c, h.okc, hf, h1, h2, h3, fun y hy => mem_write.2 (.inl ((h.has y).2 hy)), ⟨x, mem_write.2 (.inr rfl), hx⟩⟩

theorem Ahead.write (h : Ahead m n) (hx : x ∉ n.has) : Ahead (wrote m m.g x) n :=
  ⟨h.mw, h.nw, h.nb, h.b, h.okb, h.okc, h.c, h.o, h.p, fun y hy => mem_write.2 (.inl (h.sub y hy)), ⟨x, mem_write.2 (.inr rfl), hx⟩⟩

theorem Ahead.other (h : Ahead m n) (hf : ok f) (h0 : f ≠ m.g.c) (h1 : f ≠ m.g.b) (h2 : f ≠ m.g.o) (h3 : f ≠ m.g.p) (hx : x ∉ m.has) : Both m (wrote n (Spec.rotate n.g f) x) := by
  rw [rotate_zero h.nb]
  refine ⟨h.mw, h.nw, h.b, h.okb, h.okc, hf, h0.symm, by rw [h.b]; exact h.c, h1, h.o, h.p, h2, h3, ?_, ⟨x, mem_write.2 (.inr rfl), hx⟩⟩
  obtain ⟨y, hy, hn⟩ := h.more
  refine ⟨y, hy, fun hw => ?_⟩
  rcases mem_write.1 hw with hw | rfl
  · exact hn hw
  · exact hx hy

theorem Both.write (h : Both m n) (hx : x ∉ n.has) : Both (wrote m m.g x) n := by
  refine ⟨h.mw, h.nw, h.b, h.okb, h.okm, h.okn, h.c, h.mcb, h.ncb, h.mo, h.mp, h.no, h.np, ⟨x, mem_write.2 (.inr rfl), hx⟩, ?_⟩
  obtain ⟨y, hy, hn⟩ := h.nmore
  refine ⟨y, hy, fun hw => ?_⟩
  rcases mem_write.1 hw with hw | rfl
  · exact hn hw
  · exact hx hy

theorem Half.rotate (h : Half m n) (hb : m.g.b = 0) (hf : ok f) (h1 : f ≠ n.g.c) (h2 : f ≠ m.g.c) (hs : List Int) : Half ⟨Spec.rotate m.g f, m.whole, hs⟩ n := by
  rw [rotate_zero hb]
  refine ⟨h.mw, h.nw, hf, h.nb, h1, fun _ => h2, ?_⟩
  rcases h.rel with r | ⟨ro, r | r⟩
  · exact .inl r
  · exact absurd (r.symm.trans hb) ro.1
  · exact .inr ⟨ro, .inr r⟩

theorem Half.data (h : Half m n) (hs : List Int) : Half ⟨m.g, m.whole, hs⟩ n := ⟨h.mw, h.nw, h.okc, h.nb, h.c, h.cb, h.rel⟩
theorem Half.data2 (h : Half m n) (hs : List Int) : Half m ⟨n.g, n.whole, hs⟩ := ⟨h.mw, h.nw, h.okc, h.nb, h.c, h.cb, h.rel⟩

theorem New.force (h : New m n) (hf : ok f) (hs : List Int) : Half ⟨Spec.rotate m.g f, true, hs⟩ n := by
  rw [rotate_zero h.mb]
  exact ⟨rfl, h.nw, hf, h.nb, by rw [h.nc]; exact hf.2, fun _ => by rw [h.mc]; exact hf.2, .inl h.nc⟩

/-! ### a resync -/
theorem isNew_no {g : G} (h : ok g.c) : Spec.isNew g = false := by
  unfold Spec.isNew
  have h0 : (g.c == 0) = false := by simpa using h.1
  have h4 : (g.c == 4) = false := by simpa using h.2
  rw [h0, h4]; rfl

/-- What BeginSource makes of a node that is not new. -/
theorem begin_cases {g : G} (h : ok g.c) : (g.b = 4 ∧ Spec.beginSource g f = ⟨g.c, f, g.o, g.p⟩) ∨ (g.b = 0 ∧ Spec.beginSource g f = Spec.rotate g f) ∨ (ok g.b ∧ Spec.beginSource g f = g) := by
  have hn := isNew_no h
  unfold Spec.beginSource
  by_cases h4 : g.b = 4
  · exact .inl ⟨h4, by rw [if_pos (.inl h4)]⟩
  by_cases h0 : g.b = 0
  · refine .inr (.inl ⟨h0, ?_⟩)
    rw [if_neg (by rintro (h | ⟨_, h⟩); exact h4 h; rw [hn] at h; cases h), if_pos h0]
  · refine .inr (.inr ⟨⟨h0, h4⟩, ?_⟩)
    rw [if_neg (by rintro (h | ⟨h, _⟩); exact h4 h; exact h0 h), if_neg h0]

/-- The source has begun: the other has not heard yet. -/
def Begun (m n : Nd) : Prop := (Ahead m n ∨ Both m n ∨ Half m n) ∧ ok m.g.b

theorem Ahead.begins (h : Ahead m n) : Begun ⟨Spec.beginSource m.g f, m.whole, m.has⟩ n := by
  rcases begin_cases (f := f) h.okc with ⟨h4, _⟩ | ⟨h0, _⟩ | ⟨_, e⟩
  · exact absurd h4 h.okb.2
  · exact absurd h0 h.okb.1
  · rw [e]; exact ⟨.inl h, h.okb⟩
theorem Both.begins (h : Both m n) : Begun ⟨Spec.beginSource m.g f, m.whole, m.has⟩ n := by
  rcases begin_cases (f := f) h.okm with ⟨h4, _⟩ | ⟨h0, _⟩ | ⟨_, e⟩
  · exact absurd h4 h.okb.2
  · exact absurd h0 h.okb.1
  · rw [e]; exact ⟨.inr (.inl h), h.okb⟩
theorem Half.begins (h : Half m n) (hf : ok f) (h1 : f ≠ n.g.c) (h2 : f ≠ m.g.c) : Begun ⟨Spec.beginSource m.g f, m.whole, m.has⟩ n := by
  rcases begin_cases (f := f) h.okc with ⟨h4, e⟩ | ⟨h0, e⟩ | ⟨hb, e⟩
  · rw [e]
    refine ⟨.inr (.inr ⟨h.mw, h.nw, h.okc, h.nb, h.c, fun _ => h2.symm, ?_⟩), hf⟩
    rcases h.rel with r | ⟨ro, r | r⟩
    · exact .inl r
    · exact absurd (r.symm.trans h4) ro.2
    · exact .inr ⟨ro, .inr r⟩
  · rw [e]
    refine ⟨.inr (.inr (h.rotate h0 hf h1 h2 _)), ?_⟩
    rw [rotate_zero h0]; exact h.okc
  · rw [e]; exact ⟨.inr (.inr h), hb⟩
/-- Both are alike, and yet one is found to have more: it becomes the source. -/
theorem Synced.forced (h : Synced m n) (hf : ok f) (h1 : f ≠ n.g.c) (h2 : f ≠ n.g.o) (h3 : f ≠ n.g.p) (hx : x ∉ n.has) : Begun ⟨Spec.beginSource m.g f, m.whole, m.has ++ [x]⟩ n := by
  rcases begin_cases (f := f) h.okc with ⟨h4, _⟩ | ⟨_, e⟩ | ⟨hb, _⟩
  · rw [h.mb] at h4; cases h4
  · rw [e]
    have := h.write hf h1 h2 h3 hx
    exact ⟨.inl this, this.okb⟩
  · exact absurd h.mb hb.1

/-- The target has heard. -/
structure Taken (m n : Nd) : Prop where
  half : Half m n
  b : m.g.b = n.g.c
  okn : ok n.g.c

theorem Begun.taken (h : Begun m n) : Taken m ⟨Spec.beginTarget n.g m.g, false, n.has⟩ := by
  obtain ⟨h, hb⟩ := h
  have hcb : m.g.c ≠ m.g.b := by
    rcases h with h | h | h
    · rw [h.b]; exact h.c
    · exact h.mcb
    · exact h.cb hb.1
  have hw : m.whole = true := by rcases h with h | h | h <;> exact h.mw
  have hc : ok m.g.c := by
    rcases h with h | h | h
    · exact h.okc
    · exact h.okm
    · exact h.okc
  have e : (Spec.beginTarget n.g m.g).c = m.g.b ∧ (Spec.beginTarget n.g m.g).b = 0 := by
    unfold Spec.beginTarget
    rw [if_neg hb.1]
    split <;> exact ⟨rfl, rfl⟩
  exact ⟨⟨hw, rfl, hc, e.2, by rw [e.1]; exact hcb, fun _ => hcb, .inr ⟨by rw [e.1]; exact hb, .inl e.1.symm⟩⟩, e.1.symm, by rw [e.1]; exact hb⟩

/-- All is brought over, and the source has noted it. -/
structure Done (m n : Nd) : Prop where
  half : Half m n
  mb : m.g.b = 0
  has : ∀ x, x ∈ m.has ↔ x ∈ n.has

theorem Taken.done (h : Taken m n) {hs : List Int} (hh : ∀ x, x ∈ m.has ↔ x ∈ hs) : Done ⟨Spec.endSource m.g, m.whole, m.has⟩ ⟨n.g, n.whole, hs⟩ := by
  have hb : ok m.g.b := by rw [h.b]; exact h.okn
  have e : (Spec.endSource m.g).c = m.g.c ∧ (Spec.endSource m.g).b = 0 ∧ (Spec.endSource m.g).o = m.g.b := by
    unfold Spec.endSource Spec.layG
    by_cases ho : m.g.b = m.g.o
    · rw [if_pos (.inr (.inr ho))]; exact ⟨rfl, rfl, ho.symm⟩
    · rw [if_neg (by rintro (h | h | h); exact hb.1 h; exact hb.2 h; exact ho h)]; exact ⟨rfl, rfl, rfl⟩
  exact ⟨⟨h.half.mw, h.half.nw, by rw [e.1]; exact h.half.okc, h.half.nb, by rw [e.1]; exact h.half.c, fun h0 => absurd e.2.1 h0, .inr ⟨h.okn, .inr (e.2.2.trans h.b)⟩⟩, e.2.1, hh⟩

theorem Done.ended (h : Done m n) : Synced m ⟨Spec.endTarget m.g, true, n.has⟩ :=
  ⟨h.half.mw, rfl, h.mb, rfl, rfl, h.half.okc, h.has⟩
end Truth
end Go.Proofs.Ytboanmhibbhceaa
