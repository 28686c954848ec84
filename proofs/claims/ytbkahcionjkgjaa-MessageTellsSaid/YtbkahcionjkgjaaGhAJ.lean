import Derived.WalkKit
import Derived.OrdersHeld
import Derived.Deep.Draws
import Derived.Laws.OwnMore
import Derived.Laws.MakeOwn

/-! Ghost values: what a Go value is, told without memory: rows that nobody writes any more carry what is in them;
what may still be written stands in a list of objects, by number. -/

namespace Go.Gh

inductive GV where
  | any
  | lit (v : Value)
  | agg (cs : List GV)
  | tup (vs : List GV)
  | sl (bw : Bool) (sz : Nat) (xs ex : List (List GV))
  | row (id : Nat)
  | sub (id lo hi : Nat)
  | win (id lo hi : Nat)
  | zl
  | adr (id i j : Nat)
  | iadr (bw : Bool) (cs : List GV)
  | clo (f : Nat) (caps : List GV)
  | ige (n : Int)
  | mref (id : Nat)
  deriving Inhabited

inductive GO where
  | dead
  | cells (cs : List GV)
  | row (e sz : Nat) (xs : List (List GV))
  | mp (k : IntKind) (l : List (Int × GV))
  deriving Inhabited

/-- Where an object lies. -/
structure Hd where
  A : Option Nat
  sz : Nat
  n : Nat
  c : Nat

def Hd.val (h : Hd) : Value := .slice (h.A.map fun b => ⟨b, 0, none⟩) h.n h.c

/-- One cell's value. -/
def flat : Value → Bool
  | .agg _ | .tuple _ => false
  | _ => true

theorem flat_oneCell {v : Value} (h : flat v = true) : v.oneCell' = true := by
  cases v <;> simp_all [flat, Value.oneCell']

/-- What has no part in what may be written, nor in what is lent. -/
inductive VP (Im : Nat → Prop) (w : World) : GV → Value → Prop
  | any (v : Value) : VP Im w .any v
  | lit (v : Value) : VP Im w (.lit v) v
  | zl (A : Option Addr) : VP Im w .zl (.slice A 0 0)
  | ige (n m : Int) (h : n ≤ m) (h2 : m ≤ 9223372036854775807) : VP Im w (.ige n) (.int .i64 m)
  | agg (cs : List GV) (vs : Array Value) (hn : vs.size = cs.length) (hf : ∀ (i : Nat), i < vs.size → flat (vs.getD i undef) = true)
      (h : ∀ (i : Nat) g, cs[i]? = some g → VP Im w g (vs.getD i undef)) : VP Im w (.agg cs) (.agg vs)
  | tup (cs : List GV) (vs : Array Value) (hn : vs.size = cs.length)
      (h : ∀ (i : Nat) g, cs[i]? = some g → VP Im w g (vs.getD i undef)) : VP Im w (.tup cs) (.tuple vs)
  | sl (sz : Nat) (xs ex : List (List GV)) (A : Option Addr) (c : Nat) (V : Nat → Nat → Value)
      (hc : xs.length + ex.length ≤ c ∧ c ≤ maxLen) (hA : A = none → c = 0) (hs : ∀ ad, A = some ad → ad.spot = none ∨ xs ++ ex = [])
      (hsz : ∀ x, x ∈ xs ++ ex → x.length = sz)
      (hcell : ∀ (i j : Nat) x g, (xs ++ ex)[i]? = some x → x[j]? = some g →
        ∃ ad, A = some ad ∧ Im ad.block ∧ w.cell? ⟨ad.block, ad.off + (i * sz + j), none⟩ = some (V i j))
      (hf : ∀ (i j : Nat) x g, (xs ++ ex)[i]? = some x → x[j]? = some g → flat (V i j) = true)
      (hv : ∀ (i j : Nat) x g, (xs ++ ex)[i]? = some x → x[j]? = some g → VP Im w g (V i j)) :
      VP Im w (.sl false sz xs ex) (.slice A xs.length c)
  | iadr (cs : List GV) (ad : Addr) (V : Nat → Value) (hs : ad.spot = none)
      (hcell : ∀ (j : Nat) g, cs[j]? = some g → Im ad.block ∧ w.cell? ⟨ad.block, ad.off + j, none⟩ = some (V j))
      (hf : ∀ (j : Nat) g, cs[j]? = some g → flat (V j) = true)
      (hv : ∀ (j : Nat) g, cs[j]? = some g → VP Im w g (V j)) :
      VP Im w (.iadr false cs) (.pointer (some ad))

theorem VP.mono {Im Im' : Nat → Prop} {w w' : World} (hI : ∀ b, Im b → Im' b) (hw : ∀ b, Im b → w'.heap[b]? = w.heap[b]?) {g : GV} {v : Value} (h : VP Im w g v) : VP Im' w' g v := by
  induction h with
  | any v => exact .any v
  | lit v => exact .lit v
  | zl A => exact .zl A
  | ige n m h h2 => exact .ige n m h h2
  | agg cs vs hn hf _ ih => exact .agg cs vs hn hf ih
  | tup cs vs hn _ ih => exact .tup cs vs hn ih
  | sl sz xs ex A c V hc hA hs hsz hcell hf _ ih =>
    refine .sl sz xs ex A c V hc hA hs hsz (fun i j x g hx hg => ?_) hf ih
    obtain ⟨ad, e, hb, hcl⟩ := hcell i j x g hx hg
    exact ⟨ad, e, hI _ hb, by rw [← hcl]; exact World.cell?_of_block (hw _ hb)⟩
  | iadr cs ad V hs hcell hf _ ih =>
    refine .iadr cs ad V hs (fun j g hg => ?_) hf ih
    obtain ⟨hb, hcl⟩ := hcell j g hg
    exact ⟨hI _ hb, by rw [← hcl]; exact World.cell?_of_block (hw _ hb)⟩

/-- What has no part in what may be written. -/
inductive VI (Im Bw : Nat → Prop) (w : World) : GV → Value → Prop
  | any (v : Value) : VI Im Bw w .any v
  | lit (v : Value) : VI Im Bw w (.lit v) v
  | zl (A : Option Addr) : VI Im Bw w .zl (.slice A 0 0)
  | ige (n m : Int) (h : n ≤ m) (h2 : m ≤ 9223372036854775807) : VI Im Bw w (.ige n) (.int .i64 m)
  | agg (cs : List GV) (vs : Array Value) (hn : vs.size = cs.length) (hf : ∀ (i : Nat), i < vs.size → flat (vs.getD i undef) = true)
      (h : ∀ (i : Nat) g, cs[i]? = some g → VI Im Bw w g (vs.getD i undef)) : VI Im Bw w (.agg cs) (.agg vs)
  | tup (cs : List GV) (vs : Array Value) (hn : vs.size = cs.length)
      (h : ∀ (i : Nat) g, cs[i]? = some g → VI Im Bw w g (vs.getD i undef)) : VI Im Bw w (.tup cs) (.tuple vs)
  | sl (bw : Bool) (sz : Nat) (xs ex : List (List GV)) (A : Option Addr) (c : Nat) (V : Nat → Nat → Value)
      (hc : xs.length + ex.length ≤ c ∧ c ≤ maxLen) (hA : A = none → c = 0) (hs : ∀ ad, A = some ad → ad.spot = none ∨ xs ++ ex = [])
      (hsz : ∀ x, x ∈ xs ++ ex → x.length = sz)
      (hcell : ∀ (i j : Nat) x g, (xs ++ ex)[i]? = some x → x[j]? = some g →
        ∃ ad, A = some ad ∧ (bif bw then Bw ad.block else Im ad.block) ∧ w.cell? ⟨ad.block, ad.off + (i * sz + j), none⟩ = some (V i j))
      (hf : ∀ (i j : Nat) x g, (xs ++ ex)[i]? = some x → x[j]? = some g → flat (V i j) = true)
      (hv : ∀ (i j : Nat) x g, (xs ++ ex)[i]? = some x → x[j]? = some g → VP Im w g (V i j)) :
      VI Im Bw w (.sl bw sz xs ex) (.slice A xs.length c)
  | iadr (bw : Bool) (cs : List GV) (ad : Addr) (V : Nat → Value) (hs : ad.spot = none)
      (hcell : ∀ (j : Nat) g, cs[j]? = some g → (bif bw then Bw ad.block else Im ad.block) ∧ w.cell? ⟨ad.block, ad.off + j, none⟩ = some (V j))
      (hf : ∀ (j : Nat) g, cs[j]? = some g → flat (V j) = true)
      (hv : ∀ (j : Nat) g, cs[j]? = some g → VP Im w g (V j)) :
      VI Im Bw w (.iadr bw cs) (.pointer (some ad))

theorem VP.toVI {Im Bw : Nat → Prop} {w : World} {g : GV} {v : Value} (h : VP Im w g v) : VI Im Bw w g v := by
  induction h with
  | any v => exact .any v
  | lit v => exact .lit v
  | zl A => exact .zl A
  | ige n m h h2 => exact .ige n m h h2
  | agg cs vs hn hf _ ih => exact .agg cs vs hn hf ih
  | tup cs vs hn _ ih => exact .tup cs vs hn ih
  | sl sz xs ex A c V hc hA hs hsz hcell hf hv _ => exact .sl false sz xs ex A c V hc hA hs hsz hcell hf hv
  | iadr cs ad V hs hcell hf hv _ => exact .iadr false cs ad V hs hcell hf hv

theorem VI.mono {Im Bw Im' Bw' : Nat → Prop} {w w' : World} (hI : ∀ b, Im b → Im' b) (hB : ∀ b, Bw b → Bw' b)
    (hw : ∀ b, Im b ∨ Bw b → w'.heap[b]? = w.heap[b]?) {g : GV} {v : Value} (h : VI Im Bw w g v) : VI Im' Bw' w' g v := by
  induction h with
  | any v => exact .any v
  | lit v => exact .lit v
  | zl A => exact .zl A
  | ige n m h h2 => exact .ige n m h h2
  | agg cs vs hn hf _ ih => exact .agg cs vs hn hf ih
  | tup cs vs hn _ ih => exact .tup cs vs hn ih
  | sl bw sz xs ex A c V hc hA hs hsz hcell hf hv =>
    refine .sl bw sz xs ex A c V hc hA hs hsz (fun i j x g hx hg => ?_) hf fun i j x g hx hg => (hv i j x g hx hg).mono hI fun b hb => hw b (.inl hb)
    obtain ⟨ad, e, hb, hcl⟩ := hcell i j x g hx hg
    refine ⟨ad, e, ?_, ?_⟩
    · cases bw <;> simp_all
    · rw [← hcl]; exact World.cell?_of_block (hw _ (by cases bw <;> simp_all))
  | iadr bw cs ad V hs hcell hf hv =>
    refine .iadr bw cs ad V hs (fun j g hg => ?_) hf fun j g hg => (hv j g hg).mono hI fun b hb => hw b (.inl hb)
    obtain ⟨hb, hcl⟩ := hcell j g hg
    refine ⟨?_, ?_⟩
    · cases bw <;> simp_all
    · rw [← hcl]; exact World.cell?_of_block (hw _ (by cases bw <;> simp_all))

mutual
/-- Nothing borrowed in it. -/
def nobw : GV → Bool
  | .sl bw _ _ _ => !bw
  | .iadr bw _ => !bw
  | .agg cs => nobwL cs
  | .tup cs => nobwL cs
  | .clo _ cs => nobwL cs
  | _ => true
def nobwL : List GV → Bool
  | [] => true
  | g :: l => nobw g && nobwL l
end

theorem nobwL_get {l : List GV} (h : nobwL l = true) {i : Nat} {g : GV} (hg : l[i]? = some g) : nobw g = true := by
  induction l generalizing i with
  | nil => simp at hg
  | cons x l ih =>
    simp only [nobwL, Bool.and_eq_true] at h
    cases i with
    | zero => simp at hg; subst hg; exact h.1
    | succ i => exact ih h.2 (by simpa using hg)

theorem VI.toVP {Im Bw : Nat → Prop} {w : World} {g : GV} {v : Value} (h : VI Im Bw w g v) : nobw g = true → VP Im w g v := by
  induction h with
  | any v => exact fun _ => .any v
  | lit v => exact fun _ => .lit v
  | zl A => exact fun _ => .zl A
  | ige n m h h2 => exact fun _ => .ige n m h h2
  | agg cs vs hn hf _ ih => exact fun hb => .agg cs vs hn hf fun i g hg => ih i g hg (nobwL_get (by simpa [Gh.nobw] using hb) hg)
  | tup cs vs hn _ ih => exact fun hb => .tup cs vs hn fun i g hg => ih i g hg (nobwL_get (by simpa [Gh.nobw] using hb) hg)
  | sl bw sz xs ex A c V hc hA hs hsz hcell hf hv =>
    intro hb
    simp only [Gh.nobw, Bool.not_eq_true'] at hb
    subst hb
    exact .sl sz xs ex A c V hc hA hs hsz hcell hf hv
  | iadr bw cs ad V hs hcell hf hv =>
    intro hb
    simp only [Gh.nobw, Bool.not_eq_true'] at hb
    subst hb
    exact .iadr cs ad V hs hcell hf hv

theorem VI.nobw {Im Bw Bw' : Nat → Prop} {w : World} {g : GV} {v : Value} (h : VI Im Bw w g v) (hb : nobw g = true) : VI Im Bw' w g v := (h.toVP hb).toVI

/-- A value, and what it is. -/
inductive VR (Im Bw D : Nat → Prop) (ι : Nat → Hd) (w : World) : GV → Value → Prop
  | imm {g v} (h : VI Im Bw w g v) : VR Im Bw D ι w g v
  | agg (cs : List GV) (vs : Array Value) (hn : vs.size = cs.length) (hf : ∀ (i : Nat), i < vs.size → flat (vs.getD i undef) = true)
      (h : ∀ (i : Nat) g, cs[i]? = some g → VR Im Bw D ι w g (vs.getD i undef)) : VR Im Bw D ι w (.agg cs) (.agg vs)
  | tup (cs : List GV) (vs : Array Value) (hn : vs.size = cs.length)
      (h : ∀ (i : Nat) g, cs[i]? = some g → VR Im Bw D ι w g (vs.getD i undef)) : VR Im Bw D ι w (.tup cs) (.tuple vs)
  | row (id : Nat) (hD : D id) : VR Im Bw D ι w (.row id) (.slice ((ι id).A.map fun b => ⟨b, 0, none⟩) (ι id).n (ι id).c)
  | sub (id lo hi : Nat) (hD : D id) (A : Option Addr) (c : Nat) (h1 : lo ≤ hi) (h2 : hi ≤ (ι id).n) (hc : hi - lo ≤ c ∧ c ≤ maxLen)
      (hA : A = none → c = 0) (hs : ∀ ad, A = some ad → ad.spot = none)
      (hb : lo < hi → ∃ b, (ι id).A = some b ∧ A = some ⟨b, lo * (ι id).sz, none⟩) : VR Im Bw D ι w (.sub id lo hi) (.slice A (hi - lo) c)
  | win (id lo hi : Nat) (hD : D id) (A : Option Addr) (h1 : lo ≤ hi) (h2 : hi ≤ (ι id).n) (hc : (ι id).c = (ι id).n ∧ (ι id).n ≤ maxLen)
      (hA : A = none → (ι id).n = 0) (hs : ∀ ad, A = some ad → ad.spot = none)
      (hb : lo < (ι id).n → ∃ b, (ι id).A = some b ∧ A = some ⟨b, lo * (ι id).sz, none⟩) : VR Im Bw D ι w (.win id lo hi) (.slice A (hi - lo) ((ι id).n - lo))
  | adr (id i j b : Nat) (hD : D id) (hb : (ι id).A = some b) : VR Im Bw D ι w (.adr id i j) (.pointer (some ⟨b, i * (ι id).sz + j, none⟩))
  | clo (f : Nat) (cs : List GV) (vs : Array Value) (hn : vs.size = cs.length)
      (h : ∀ (i : Nat) g, cs[i]? = some g → VR Im Bw D ι w g (vs.getD i undef)) : VR Im Bw D ι w (.clo f cs) (.func (.func f) #[] vs)
  | mref (id b : Nat) (hD : D id) (hb : (ι id).A = some b) : VR Im Bw D ι w (.mref id) (.map (some b))

theorem VR.mono {Im Bw D Im' Bw' D' : Nat → Prop} {ι ι' : Nat → Hd} {w w' : World} (hI : ∀ b, Im b → Im' b) (hB : ∀ b, Bw b → Bw' b)
    (hD : ∀ i, D i → D' i) (hι : ∀ i, D i → ι' i = ι i)
    (hw : ∀ b, Im b ∨ Bw b → w'.heap[b]? = w.heap[b]?) {g : GV} {v : Value} (h : VR Im Bw D ι w g v) : VR Im' Bw' D' ι' w' g v := by
  induction h with
  | imm h => exact .imm (h.mono hI hB hw)
  | agg cs vs hn hf _ ih => exact .agg cs vs hn hf ih
  | tup cs vs hn _ ih => exact .tup cs vs hn ih
  | row id h => rw [← hι id h]; exact .row id (hD id h)
  | sub id lo hi h A c h1 h2 hc hA hs hb => exact .sub id lo hi (hD id h) A c h1 (by rw [hι id h]; exact h2) hc hA hs (by rw [hι id h]; exact hb)
  | win id lo hi h A h1 h2 hc hA hs hb => rw [← hι id h]; exact .win id lo hi (hD id h) A h1 (by rw [hι id h]; exact h2) (by rw [hι id h]; exact hc) (by rw [hι id h]; exact hA) hs (by rw [hι id h]; exact hb)
  | adr id i j b h hb => rw [← hι id h]; exact .adr id i j b (hD id h) (by rw [hι id h]; exact hb)
  | clo f cs vs hn _ ih => exact .clo f cs vs hn ih
  | mref id b h hb => exact .mref id b (hD id h) (by rw [hι id h]; exact hb)

theorem VR.nobw {Im Bw Bw' D : Nat → Prop} {ι : Nat → Hd} {w : World} {g : GV} {v : Value} (h : VR Im Bw D ι w g v) : nobw g = true → VR Im Bw' D ι w g v := by
  induction h with
  | imm h => exact fun hb => .imm (VI.nobw h hb)
  | agg cs vs hn hf _ ih => exact fun hb => .agg cs vs hn hf fun i g hg => ih i g hg (nobwL_get (by simpa [Gh.nobw] using hb) hg)
  | tup cs vs hn _ ih => exact fun hb => .tup cs vs hn fun i g hg => ih i g hg (nobwL_get (by simpa [Gh.nobw] using hb) hg)
  | row id h => exact fun _ => .row id h
  | sub id lo hi h A c h1 h2 hc hA hs hb => exact fun _ => .sub id lo hi h A c h1 h2 hc hA hs hb
  | win id lo hi h A h1 h2 hc hA hs hb => exact fun _ => .win id lo hi h A h1 h2 hc hA hs hb
  | adr id i j b h hb => exact fun _ => .adr id i j b h hb
  | clo f cs vs hn _ ih => exact fun hb => .clo f cs vs hn fun i g hg => ih i g hg (nobwL_get (by simpa [Gh.nobw] using hb) hg)
  | mref id b h hb => exact fun _ => .mref id b h hb

/-- What must not turn: what is read alone; what is lent; what belongs to others. -/
structure Ctx where
  Im : Nat → Prop
  Bw : Nat → Prop
  Fz : Nat → Prop

def Ctx.has (Γ : Ctx) (b : Nat) : Prop := Γ.Im b ∨ Γ.Bw b ∨ Γ.Fz b

structure Keep (Γ : Ctx) (w w' : World) : Prop where
  os : w'.os = w.os
  tape : w'.tape = w.tape
  output : w'.output = w.output
  size : w.heap.size ≤ w'.heap.size
  block : ∀ b, Γ.has b → w'.heap[b]? = w.heap[b]?

theorem Keep.refl (Γ : Ctx) (w : World) : Keep Γ w w := ⟨rfl, rfl, rfl, Nat.le_refl _, fun _ _ => rfl⟩

theorem Keep.trans {Γ Γ' : Ctx} {a b c : World} (h : Keep Γ a b) (h' : Keep Γ' b c) (hs : ∀ b, Γ.has b → Γ'.has b) : Keep Γ a c :=
  ⟨h'.os.trans h.os, h'.tape.trans h.tape, h'.output.trans h.output, Nat.le_trans h.size h'.size,
   fun x hx => (h'.block x (hs x hx)).trans (h.block x hx)⟩

theorem Keep.weaken {Γ Γ' : Ctx} {a b : World} (h : Keep Γ' a b) (hs : ∀ b, Γ.has b → Γ'.has b) : Keep Γ a b :=
  ⟨h.os, h.tape, h.output, h.size, fun x hx => h.block x (hs x hx)⟩

/-- Nothing in a row's block, ahead of its end or behind it, is a struct. -/
def spf (w : World) (A : Option Nat) : Prop := ∀ b arr t, A = some b → w.heap[b]? = some (.cells arr t (0, 0)) → ∀ v, v ∈ arr.toList → flat v = true

theorem spf.mono {w w' : World} {A : Option Nat} (h : spf w A) (hw : ∀ b, A = some b → w'.heap[b]? = w.heap[b]?) : spf w' A := fun b arr t hb hg =>
  h b arr t hb (by rw [← hw b hb]; exact hg)

/-- An object, and what lies there. -/
def OR (V Vp : GV → Value → Prop) (w : World) (hd : Hd) : GO → Prop
  | .dead => True
  | .cells cs => hd.sz = 0 ∧ ∃ b arr t, hd.A = some b ∧ w.heap[b]? = some (.cells arr t (0, 0)) ∧ arr.size = cs.length ∧
      (∀ i, i < arr.size → flat (arr.getD i undef) = true) ∧ ∀ (j : Nat) g, cs[j]? = some g → V g (arr.getD j undef)
  | .row e sz xs => (hd.sz = sz ∧ spf w hd.A) ∧ hd.n = xs.length ∧ (∀ x, x ∈ xs → x.length = sz) ∧ ∃ cs : List Value, w.ownsRow 0 e sz hd.val xs.length cs ∧
      (∀ v, v ∈ cs → flat v = true) ∧ ∀ (i j : Nat) x g, xs[i]? = some x → x[j]? = some g → Vp g (cs.getD (i * sz + j) undef)
  | .mp k l => ∃ b es cl, hd.A = some b ∧ w.heap[b]? = some (.map es cl) ∧ es.size = l.length ∧
      ∀ (i : Nat) e, l[i]? = some e → ∃ m, es[i]? = some m ∧ m.key = .int k e.1 ∧ Vp e.2 m.val

theorem OR.mono {V V' Vp Vp' : GV → Value → Prop} {w w' : World} {hd : Hd} {o : GO} (hV : ∀ g v, V g v → V' g v) (hP : ∀ g v, Vp g v → Vp' g v)
    (hw : ∀ b, o ≠ .dead → hd.A = some b → w'.heap[b]? = w.heap[b]?) (h : OR V Vp w hd o) : OR V' Vp' w' hd o := by
  cases o with
  | dead => trivial
  | cells cs =>
    obtain ⟨h0, b, arr, t, h1, h2, h3, hf, h4⟩ := h
    exact ⟨h0, b, arr, t, h1, (hw b (by simp) h1).trans h2, h3, hf, fun j g hg => hV _ _ (h4 j g hg)⟩
  | row e sz xs =>
    obtain ⟨h0, h1, hz, cs, h2, hf, h3⟩ := h
    refine ⟨⟨h0.1, h0.2.mono fun b hb => hw b (by simp) hb⟩, h1, hz, cs, ⟨h2.1, ?_⟩, hf, fun i j x g hx hg => hP _ _ (h3 i j x g hx hg)⟩
    rcases h2.2 with h2 | ⟨b, cap, cur, hv, h3, h4, h5⟩
    · exact .inl h2
    · refine .inr ⟨b, cap, cur, hv, h3, (hw b (by simp) ?_).trans h4, h5⟩
      unfold Hd.val at hv
      cases hA : hd.A with
      | none => simp [hA] at hv
      | some b' => simp [hA] at hv; simp [hv.1]
  | mp k l =>
    obtain ⟨b, es, cl, h1, h2, h3, h4⟩ := h
    refine ⟨b, es, cl, h1, (hw b (by simp) h1).trans h2, h3, fun i e he => ?_⟩
    obtain ⟨m, a, c, d⟩ := h4 i e he
    exact ⟨m, a, c, hP _ _ d⟩

theorem OR.lt {V Vp : GV → Value → Prop} {w : World} {hd : Hd} {o : GO} (h : OR V Vp w hd o) (ho : o ≠ .dead) {b : Nat} (hb : hd.A = some b) : b < w.heap.size := by
  cases o with
  | dead => exact absurd rfl ho
  | cells cs =>
    obtain ⟨_, b', arr, t, h1, h2, _⟩ := h
    obtain rfl : b' = b := Option.some.inj (h1.symm.trans hb)
    exact (Array.getElem?_eq_some_iff.1 h2).1
  | row e sz xs =>
    obtain ⟨_, _, _, cs, h2, _⟩ := h
    exact (h2.lt b (by simp [Hd.val, hb, Value.ownBlock])).2
  | mp k l =>
    obtain ⟨b', es, cl, h1, h2, _⟩ := h
    obtain rfl : b' = b := Option.some.inj (h1.symm.trans hb)
    exact (Array.getElem?_eq_some_iff.1 h2).1

structure SR (Γ : Ctx) (D : Nat → Prop) (ι : Nat → Hd) (M : Nat → GO) (w : World) : Prop where
  obj : ∀ id, OR (VR Γ.Im Γ.Bw D ι w) (VP Γ.Im w) w (ι id) (M id)
  liv : ∀ id, M id ≠ .dead → D id
  inj : ∀ i j b, M i ≠ .dead → M j ≠ .dead → (ι i).A = some b → (ι j).A = some b → i = j
  lt : ∀ b, Γ.has b → b < w.heap.size
  own : ∀ id b, M id ≠ .dead → (ι id).A = some b → ¬ Γ.has b
  dj : ∀ b, (Γ.Im b → ¬ Γ.Bw b) ∧ (Γ.Im b → ¬ Γ.Fz b) ∧ (Γ.Bw b → ¬ Γ.Fz b)

end Go.Gh


namespace Go.Gh

/-! The state of the objects, step by step. -/

theorem SR.heap {Γ : Ctx} {D : Nat → Prop} {ι : Nat → Hd} {M : Nat → GO} {w w' : World} (h : SR Γ D ι M w) (e : w'.heap = w.heap) : SR Γ D ι M w' := by
  refine ⟨fun id => ?_, h.liv, h.inj, fun b hb => by rw [e]; exact h.lt b hb, h.own, h.dj⟩
  exact (h.obj id).mono (fun g v hv => hv.mono (fun _ h => h) (fun _ h => h) (fun _ h => h) (fun _ _ => rfl) (fun b _ => by rw [e])) (fun g v hv => hv.mono (fun _ h => h) fun b _ => by rw [e]) (fun b _ _ => by rw [e])

theorem SR.dom {Γ : Ctx} {D D' : Nat → Prop} {ι : Nat → Hd} {M : Nat → GO} {w : World} (h : SR Γ D ι M w) (hD : ∀ i, D i → D' i) : SR Γ D' ι M w :=
  ⟨fun id => (h.obj id).mono (fun _ _ hv => hv.mono (fun _ h => h) (fun _ h => h) hD (fun _ _ => rfl) (fun _ _ => rfl)) (fun _ _ h => h) (fun _ _ _ => rfl),
   fun id hid => hD id (h.liv id hid), h.inj, h.lt, h.own, h.dj⟩

/-- An object let go. -/
def setF (M : Nat → GO) (id : Nat) (o : GO) : Nat → GO := fun i => if i = id then o else M i

theorem SR.drop {Γ : Ctx} {D : Nat → Prop} {ι : Nat → Hd} {M M' : Nat → GO} {w : World} (h : SR Γ D ι M w) (hM : ∀ i, M' i = .dead ∨ M' i = M i) : SR Γ D ι M' w := by
  refine ⟨fun id => ?_, fun id hid => h.liv id ?_, fun i j b hi hj => h.inj i j b ?_ ?_, h.lt, fun id b hid => h.own id b ?_, h.dj⟩
  · rcases hM id with e | e <;> rw [e]
    · trivial
    · exact h.obj id
  · rcases hM id with e | e <;> simp_all
  · rcases hM i with e | e <;> simp_all
  · rcases hM j with e | e <;> simp_all
  · rcases hM id with e | e <;> simp_all

/-- What stands in an object's block is written anew. -/
theorem SR.put {Γ : Ctx} {D : Nat → Prop} {ι : Nat → Hd} {M : Nat → GO} {w w' : World} (h : SR Γ D ι M w) {id : Nat} {o : GO} (hid : M id ≠ .dead)
    (hs : w.heap.size ≤ w'.heap.size) (hw : ∀ b, (ι id).A ≠ some b → b < w.heap.size → w'.heap[b]? = w.heap[b]?)
    (ho : OR (VR Γ.Im Γ.Bw D ι w') (VP Γ.Im w') w' (ι id) o) : SR Γ D ι (setF M id o) w' := by
  have hblk : ∀ b, Γ.Im b ∨ Γ.Bw b → w'.heap[b]? = w.heap[b]? := fun b hb =>
    hw b (fun e => h.own id b hid e (hb.elim .inl fun x => .inr (.inl x))) (h.lt b (hb.elim .inl fun x => .inr (.inl x)))
  have hVR : ∀ g v, VR Γ.Im Γ.Bw D ι w g v → VR Γ.Im Γ.Bw D ι w' g v := fun g v hv =>
    hv.mono (fun _ h => h) (fun _ h => h) (fun _ h => h) (fun _ _ => rfl) hblk
  have hne : ∀ i, setF M id o i ≠ .dead → M i ≠ .dead := fun i hi => by
    unfold setF at hi; split at hi
    · rename_i e; rw [e]; exact hid
    · exact hi
  refine ⟨fun i => ?_, fun i hi => h.liv i (hne i hi), fun i j b hi hj => h.inj i j b (hne i hi) (hne j hj), fun b hb => Nat.lt_of_lt_of_le (h.lt b hb) hs,
    fun i b hi => h.own i b (hne i hi), h.dj⟩
  by_cases e : i = id
  · subst e; simpa [setF] using ho
  · simp only [setF, if_neg e]
    refine (h.obj i).mono hVR (fun g v hv => hv.mono (fun _ h => h) fun b hb => hblk b (.inl hb)) fun b hdead hb => hw b (fun hb' => e (h.inj i id b hdead hid hb hb')) ((h.obj i).lt hdead hb)

/-- A new object; one of the old ones may have been let go with it, and its block be the new one's. -/
theorem SR.new {Γ : Ctx} {D D' : Nat → Prop} {ι ι' : Nat → Hd} {M M' : Nat → GO} {w w' : World} (h : SR Γ D ι M w) {nb : Nat} {o : GO} (hn : ¬ D nb)
    (hD : ∀ i, D' i ↔ D i ∨ i = nb) (hι : ∀ i, D i → ι' i = ι i) (hM : ∀ i, i ≠ nb → M' i = .dead ∨ M' i = M i) (hMn : M' nb = o)
    (hs : w.heap.size ≤ w'.heap.size)
    (hw : ∀ b, b < w.heap.size → (ι' nb).A ≠ some b → (∀ id, M id ≠ .dead → M' id = .dead → (ι id).A ≠ some b) → w'.heap[b]? = w.heap[b]?)
    (hb : ∀ b, (ι' nb).A = some b → w.heap.size ≤ b ∨ ∃ id, M id ≠ .dead ∧ M' id = .dead ∧ (ι id).A = some b)
    (ho : OR (VR Γ.Im Γ.Bw D' ι' w') (VP Γ.Im w') w' (ι' nb) o) : SR Γ D' ι' M' w' := by
  have hout : ∀ b, (ι' nb).A = some b → ¬ Γ.has b := fun b e hh => by
    rcases hb b e with h1 | ⟨id, h1, _, h3⟩
    · have := h.lt b hh; omega
    · exact h.own id b h1 h3 hh
  have hblk : ∀ b, Γ.Im b ∨ Γ.Bw b → w'.heap[b]? = w.heap[b]? := fun b hb' =>
    have hh : Γ.has b := hb'.elim .inl fun x => .inr (.inl x)
    hw b (h.lt b hh) (fun e => hout b e hh) (fun i hi _ e => h.own i b hi e hh)
  have hVR : ∀ g v, VR Γ.Im Γ.Bw D ι w g v → VR Γ.Im Γ.Bw D' ι' w' g v := fun g v hv =>
    hv.mono (fun _ h => h) (fun _ h => h) (fun i hi => (hD i).2 (.inl hi)) hι hblk
  have hold : ∀ i, M' i ≠ .dead → i ≠ nb → M i ≠ .dead ∧ M' i = M i := fun i hi hin => by
    rcases hM i hin with e | e
    · exact absurd e hi
    · exact ⟨e ▸ hi, e⟩
  have hclash : ∀ i b, M' i ≠ .dead → i ≠ nb → (ι' nb).A = some b → (ι' i).A = some b → False := fun i b hi hin e1 e2 => by
    obtain ⟨h1, h2⟩ := hold i hi hin
    rw [hι i (h.liv i h1)] at e2
    rcases hb b e1 with h3 | ⟨id, h3, h4, h5⟩
    · have := (h.obj i).lt h1 e2; omega
    · have := h.inj i id b h1 h3 e2 h5
      subst this
      exact hi h4
  refine ⟨fun i => ?_, fun i hi => ?_, fun i j b hi hj ei ej => ?_, fun b hb' => Nat.lt_of_lt_of_le (h.lt b hb') hs, fun i b hi ei => ?_, h.dj⟩
  · by_cases e : i = nb
    · subst e; rw [hMn]; exact ho
    · rcases hM i e with e1 | e1
      · rw [e1]; trivial
      · rw [e1]
        by_cases hd : M i = .dead
        · rw [hd]; trivial
        · rw [hι i (h.liv i hd)]
          refine (h.obj i).mono hVR (fun g v hv => hv.mono (fun _ h => h) fun b hb => hblk b (.inl hb)) fun b _ hb' => hw b ((h.obj i).lt hd hb') (fun e2 => hclash i b (e1 ▸ hd) e e2 (by rw [hι i (h.liv i hd)]; exact hb')) fun j hj hj' ej => ?_
          have := h.inj i j b hd hj hb' ej
          subst this
          rw [e1] at hj'
          exact hd hj'
  · by_cases e : i = nb
    · exact (hD i).2 (.inr e)
    · exact (hD i).2 (.inl (h.liv i (hold i hi e).1))
  · by_cases e1 : i = nb
    · by_cases e2 : j = nb
      · rw [e1, e2]
      · subst e1; exact (hclash j b hj e2 ei ej).elim
    · by_cases e2 : j = nb
      · subst e2; exact (hclash i b hi e1 ej ei).elim
      · obtain ⟨h1, _⟩ := hold i hi e1
        obtain ⟨h2, _⟩ := hold j hj e2
        rw [hι i (h.liv i h1)] at ei
        rw [hι j (h.liv j h2)] at ej
        exact h.inj i j b h1 h2 ei ej
  · by_cases e : i = nb
    · subst e; exact hout b ei
    · obtain ⟨h1, _⟩ := hold i hi e
      rw [hι i (h.liv i h1)] at ei
      exact h.own i b h1 ei

/-- A row that is read alone from now on. -/
theorem SR.freeze {Γ : Ctx} {D : Nat → Prop} {ι : Nat → Hd} {M M' : Nat → GO} {w : World} (h : SR Γ D ι M w) {id : Nat} (hid : M id ≠ .dead)
    (hM' : ∀ i, M' i = if i = id then .dead else M i) :
    SR ⟨fun b => Γ.Im b ∨ (ι id).A = some b, Γ.Bw, Γ.Fz⟩ D ι M' w := by
  have hne : ∀ i, M' i ≠ .dead → i ≠ id ∧ M i ≠ .dead := fun i hi => by
    rw [hM'] at hi; split at hi
    · exact absurd rfl hi
    · rename_i e; exact ⟨e, hi⟩
  refine ⟨fun i => ?_, fun i hi => h.liv i (hne i hi).2, fun i j b hi hj => h.inj i j b (hne i hi).2 (hne j hj).2, ?_, ?_, ?_⟩
  · rw [hM']; split
    · trivial
    · exact (h.obj i).mono (fun g v hv => hv.mono (fun _ => .inl) (fun _ h => h) (fun _ h => h) (fun _ _ => rfl) (fun _ _ => rfl)) (fun g v hv => hv.mono (fun _ => .inl) (fun _ _ => rfl)) (fun _ _ _ => rfl)
  · rintro b ((hb | hb) | hb)
    · exact h.lt b (.inl hb)
    · exact (h.obj id).lt hid hb
    · exact h.lt b (.inr hb)
  · rintro i b hi hb ((h1 | h1) | h1)
    · exact h.own i b (hne i hi).2 hb (.inl h1)
    · exact (hne i hi).1 (h.inj i id b (hne i hi).2 hid hb h1)
    · exact h.own i b (hne i hi).2 hb (.inr h1)
  · intro b
    refine ⟨?_, ?_, (h.dj b).2.2⟩
    · rintro (h1 | h1) h2
      · exact (h.dj b).1 h1 h2
      · exact h.own id b hid h1 (.inr (.inl h2))
    · rintro (h1 | h1) h2
      · exact (h.dj b).2.1 h1 h2
      · exact h.own id b hid h1 (.inr (.inr h2))

/-! One operation. -/

def updF (M : Nat → GO) (ups : List (Nat × GO)) (nb : Nat) (news : List GO) : Nat → GO := fun i =>
  if nb ≤ i ∧ i < nb + news.length then news.getD (i - nb) .dead else ((ups.find? (·.1 == i)).map (·.2)).getD (M i)

abbrev Rho := Operand → GV

/-- From ghost operands ρ, and objects M (of which those numbered 'ids' count), operation o makes g, turns objects 'ups', and makes new ones, numbered from nb on. -/
def OpS (P : Program) (o : Oper) (ρ : Rho) (nb : Nat) (M0 : Nat → GO) (ids : List Nat) (g : GV) (ups : List (Nat × GO)) (news : List GO) : Prop :=
  ∀ (Γ : Ctx) (D : Nat → Prop) (ι : Nat → Hd) (M : Nat → GO) (w : World) (a : Act) (K : Act → World → Prop) (Q : Exit → Act → World → Prop),
    SR Γ D ι M w → (∀ x, x ∈ o.op.operands → VR Γ.Im Γ.Bw D ι w (ρ x) (a.eval x)) → (∀ id, id ∈ ids → M id = M0 id) →
    (∀ i, nb ≤ i → i < nb + news.length → ¬ D i) →
    (∀ (Im' : Nat → Prop) (ι' : Nat → Hd) (v' : Value) (w' : World), Keep Γ w w' → (∀ b, Γ.Im b → Im' b) → (∀ i, D i → ι' i = ι i) →
      SR ⟨Im', Γ.Bw, Γ.Fz⟩ (fun i => D i ∨ (nb ≤ i ∧ i < nb + news.length)) ι' (updF M ups nb news) w' →
      VR Im' Γ.Bw (fun i => D i ∨ (nb ≤ i ∧ i < nb + news.length)) ι' w' g v' → K (a.put o.dst v') w') → o.wp P a w K Q

theorem updF_nil (M : Nat → GO) (nb : Nat) : updF M [] nb [] = M := by
  funext i
  unfold updF
  rw [if_neg (by simp only [List.length_nil]; omega)]
  rfl

theorem updF_one (M : Nat → GO) (nb : Nat) (id : Nat) (o : GO) : updF M [(id, o)] nb [] = setF M id o := by
  funext i
  unfold updF setF
  rw [if_neg (by simp only [List.length_nil]; omega)]
  by_cases e : i = id
  · subst e; simp
  · have : (id == i) = false := by simpa using fun h => e h.symm
    simp [this, e]

theorem dom_nil (D : Nat → Prop) (nb : Nat) : (fun i => D i ∨ (nb ≤ i ∧ i < nb + ([] : List GO).length)) = D := by
  funext i
  simp only [List.length_nil, Nat.add_zero, eq_iff_iff]
  constructor
  · rintro (h | h)
    · exact h
    · omega
  · exact .inl

/-- What reads alone. -/
theorem OpS.quiet {P : Program} {o : Oper} {ρ : Rho} {nb : Nat} {M0 : Nat → GO} {ids : List Nat} {g : GV}
    (h : ∀ (Γ : Ctx) (D : Nat → Prop) (ι : Nat → Hd) (M : Nat → GO) (w : World) (a : Act), SR Γ D ι M w →
      (∀ x, x ∈ o.op.operands → VR Γ.Im Γ.Bw D ι w (ρ x) (a.eval x)) → (∀ id, id ∈ ids → M id = M0 id) →
      ∃ v', VR Γ.Im Γ.Bw D ι w g v' ∧ (execOp a.eval o).run P w = .ok (.value v') w) : OpS P o ρ nb M0 ids g [] [] := by
  intro Γ D ι M w a K Q hS hV hM _ hk
  obtain ⟨v', hv, hr⟩ := h Γ D ι M w a hS hV hM
  have := hk Γ.Im ι v' w (Keep.refl _ _) (fun _ h => h) (fun _ _ => rfl)
  rw [updF_nil, dom_nil] at this
  unfold Oper.wp
  rw [hr]
  exact this hS hv

/-- What makes one object, in a block of its own. -/
theorem OpS.make {P : Program} {o : Oper} {ρ : Rho} {nb : Nat} {M0 : Nat → GO} {ids : List Nat} {g : GV} {ob : GO}
    (h : ∀ (Γ : Ctx) (D : Nat → Prop) (ι : Nat → Hd) (M : Nat → GO) (w : World) (a : Act), SR Γ D ι M w →
      (∀ x, x ∈ o.op.operands → VR Γ.Im Γ.Bw D ι w (ρ x) (a.eval x)) → (∀ id, id ∈ ids → M id = M0 id) → ¬ D nb →
      ∃ (hd : Hd) (v' : Value) (w' : World), (execOp a.eval o).run P w = .ok (.value v') w' ∧ w'.os = w.os ∧ w'.tape = w.tape ∧ w'.output = w.output ∧
        w.heap.size ≤ w'.heap.size ∧ (∀ b, b < w.heap.size → w'.heap[b]? = w.heap[b]?) ∧ (∀ b, hd.A = some b → w.heap.size ≤ b) ∧
        (∀ (D' : Nat → Prop) (ι' : Nat → Hd), (∀ i, D i → D' i) → D' nb → (∀ i, D i → ι' i = ι i) → ι' nb = hd →
          OR (VR Γ.Im Γ.Bw D' ι' w') (VP Γ.Im w') w' hd ob ∧ VR Γ.Im Γ.Bw D' ι' w' g v')) : OpS P o ρ nb M0 ids g [] [ob] := by
  intro Γ D ι M w a K Q hS hV hM hf hk
  have hn : ¬ D nb := hf nb (Nat.le_refl _) (by simp)
  obtain ⟨hd, v', w', hr, h1, h2, h3, h4, h5, h6, h7⟩ := h Γ D ι M w a hS hV hM hn
  have hD : (fun i => D i ∨ (nb ≤ i ∧ i < nb + [ob].length)) = fun i => D i ∨ i = nb := by
    funext i; simp only [List.length_singleton, eq_iff_iff]
    constructor <;> rintro (h | h) <;> first | exact .inl h | (right; omega)
  have := hk Γ.Im (fun i => if i = nb then hd else ι i) v' w' ⟨h1, h2, h3, h4, fun b hb => h5 b (hS.lt b hb)⟩ (fun _ h => h)
    (fun i hi => by rw [if_neg]; rintro rfl; exact hn hi)
  rw [hD] at this
  obtain ⟨h8, h9⟩ := h7 (fun i => D i ∨ i = nb) (fun i => if i = nb then hd else ι i) (fun _ => .inl) (.inr rfl)
    (fun i hi => by rw [if_neg]; rintro rfl; exact hn hi) (by simp)
  unfold Oper.wp
  rw [hr]
  refine this (hS.new hn (fun i => Iff.rfl) (fun i hi => by rw [if_neg]; rintro rfl; exact hn hi) (o := ob) ?_ ?_ h4 ?_ ?_ ?_) h9
  · intro i hi
    right
    unfold updF
    rw [if_neg (by simp; omega)]
    rfl
  · unfold updF
    rw [if_pos (by simp)]
    simp
  · intro b hb _ _; exact h5 b hb
  · intro b hb; simp at hb; exact .inl (h6 b hb)
  · simpa using h8

/-- What writes into one object. -/
theorem OpS.write {P : Program} {o : Oper} {ρ : Rho} {nb : Nat} {M0 : Nat → GO} {id : Nat} {ob : GO} (hid : M0 id ≠ .dead)
    (h : ∀ (Γ : Ctx) (D : Nat → Prop) (ι : Nat → Hd) (M : Nat → GO) (w : World) (a : Act), SR Γ D ι M w →
      (∀ x, x ∈ o.op.operands → VR Γ.Im Γ.Bw D ι w (ρ x) (a.eval x)) → M id = M0 id →
      ∃ (w' : World), ((execOp a.eval o).run P w = .ok .skip w') ∧ w'.os = w.os ∧ w'.tape = w.tape ∧ w'.output = w.output ∧
        w.heap.size ≤ w'.heap.size ∧ (∀ b, (ι id).A ≠ some b → w'.heap[b]? = w.heap[b]?) ∧
        ((∀ g v, VR Γ.Im Γ.Bw D ι w g v → VR Γ.Im Γ.Bw D ι w' g v) → (∀ g v, VP Γ.Im w g v → VP Γ.Im w' g v) → OR (VR Γ.Im Γ.Bw D ι w') (VP Γ.Im w') w' (ι id) ob)) : OpS P o ρ nb M0 [id] .any [(id, ob)] [] := by
  intro Γ D ι M w a K Q hS hV hM _ hk
  have hMi := hM id (by simp)
  obtain ⟨w', hr, h1, h2, h3, h4, h5, h6⟩ := h Γ D ι M w a hS hV hMi
  have hld : M id ≠ .dead := by rw [hMi]; exact hid
  have hkp : Keep Γ w w' := ⟨h1, h2, h3, h4, fun b hb => h5 b fun e => hS.own id b hld e hb⟩
  have hVR : ∀ g v, VR Γ.Im Γ.Bw D ι w g v → VR Γ.Im Γ.Bw D ι w' g v := fun g v hv =>
    hv.mono (fun _ h => h) (fun _ h => h) (fun _ h => h) (fun _ _ => rfl) fun b hb => hkp.block b (hb.elim .inl fun x => .inr (.inl x))
  have := hk Γ.Im ι undef w' hkp (fun _ h => h) (fun _ _ => rfl)
  rw [updF_one, dom_nil] at this
  unfold Oper.wp
  rw [hr]
  exact this (hS.put hld h4 (fun b hb _ => h5 b hb) (h6 hVR fun g v hv => hv.mono (fun _ h => h) fun b hb => hkp.block b (.inl hb))) (.imm (.any _))

end Go.Gh


namespace Go.Gh

/-! Types, as the operations ask of them. -/

def zeroOf (P : Program) (t : TypeId) : Option Value := (P.info? t).bind (·.zero)
def aggT (P : Program) (t : TypeId) : Option Bool :=
  (P.underlying t).map fun | .struct _ | .array _ _ => true | _ => false

section
variable {P : Program} {w : World}

theorem info_of_underlying {t : TypeId} {d : TypeDesc} (h : P.underlying t = some d) : ∃ i, P.info? t = some i := by
  unfold Program.underlying at h
  split at h <;> first | exact ⟨_, by assumption⟩ | cases h

theorem run_und {t : TypeId} {d : TypeDesc} (h : P.underlying t = some d) : (underlying t).run P w = .ok d w := by
  simp [underlying, h]

theorem aggT_und {t : TypeId} {b : Bool} (h : aggT P t = some b) : ∃ d, P.underlying t = some d := by
  unfold aggT at h
  cases e : P.underlying t with
  | none => simp [e] at h
  | some d => exact ⟨d, rfl⟩

theorem run_sz {t : TypeId} {i : TypeInfo} (h : P.info? t = some i) : (sizeOf t).run P w = .ok (P.cellsOf t) w := by
  simp [sizeOf, typeInfo, h, Program.cellsOf]

theorem run_szU {t : TypeId} {d : TypeDesc} (h : P.underlying t = some d) : (sizeOf t).run P w = .ok (P.cellsOf t) w := by
  obtain ⟨i, hi⟩ := info_of_underlying h
  exact run_sz hi

theorem run_isA {t : TypeId} {b : Bool} (h : aggT P t = some b) : (isAgg t).run P w = .ok b w := by
  obtain ⟨d, hd⟩ := aggT_und h
  unfold aggT at h
  simp only [hd, Option.map_some, Option.some.injEq] at h
  simp only [isAgg, Sem.run_bind, run_und hd, Result.andThen_ok]
  subst h
  cases d <;> rfl

theorem add_addr {ad : Addr} (hs : ad.spot = none) (n : Nat) : ad.add n = ⟨ad.block, ad.off + n, none⟩ := by
  cases ad with
  | mk b o s => simp only at hs; subst hs; unfold Addr.add; split <;> simp_all

theorem add_lit (b o n : Nat) : (⟨b, o, none⟩ : Addr).add n = ⟨b, o + n, none⟩ := add_addr rfl n

end

/-! Loading. -/

def ldv (P : Program) (t : TypeId) (cs : List GV) : Option GV :=
  match aggT P t with
  | some true => if P.cellsOf t ≤ cs.length then some (.agg (cs.take (P.cellsOf t))) else none
  | some false => cs.head?
  | none => none

def cellsAt (o : GO) (i : Nat) : Option (List GV) :=
  match o with
  | .cells cs => some cs
  | .row _ _ xs => xs[i]?
  | .dead => none
  | .mp _ _ => none

theorem ldv_sound {P : Program} {t : TypeId} {cs : List GV} {g : GV} {w : World} {ad : Addr} {Im Bw D : Nat → Prop} {ι : Nat → Hd} (hs : ad.spot = none) (V : Nat → Value)
    (hcell : ∀ (j : Nat) g, cs[j]? = some g → w.cell? ⟨ad.block, ad.off + j, none⟩ = some (V j) ∧ flat (V j) = true ∧ VR Im Bw D ι w g (V j))
    (h : ldv P t cs = some g) : ∃ v, (loadVar t ad).run P w = .ok v w ∧ VR Im Bw D ι w g v := by
  unfold ldv at h
  split at h
  · rename_i ha
    obtain ⟨d, hd⟩ := aggT_und ha
    split at h
    · rename_i hle
      simp only [Option.some.injEq] at h
      subst h
      have hl := run_loadCells (P := P) w ad (P.cellsOf t) V (fun j hj => by
        rw [add_addr hs]
        exact (hcell j (cs[j]'(by omega)) (List.getElem?_eq_getElem (by omega))).1)
      refine ⟨.agg ((List.range (P.cellsOf t)).map V).toArray, ?_, ?_⟩
      · simp [loadVar, run_isA ha, run_szU hd, hl]
      · have hg : ∀ i, i < P.cellsOf t → ((List.range (P.cellsOf t)).map V).toArray.getD i undef = V i := fun i hi => by simp [hi]
        refine .agg _ _ (by simp; omega) (fun i hi => ?_) (fun i g hg' => ?_)
        · have hi' : i < P.cellsOf t := by simpa using hi
          rw [hg i hi']
          exact (hcell i (cs[i]'(by omega)) (List.getElem?_eq_getElem (by omega))).2.1
        · rw [List.getElem?_take] at hg'
          split at hg'
          · rename_i hi
            rw [hg i hi]
            exact (hcell i g hg').2.2
          · cases hg'
    · cases h
  · rename_i ha
    cases cs with
    | nil => cases h
    | cons c cs =>
      simp only [List.head?_cons, Option.some.injEq] at h
      subst h
      obtain ⟨h1, h2, h3⟩ := hcell 0 c (by simp)
      refine ⟨V 0, ?_, h3⟩
      have : (⟨ad.block, ad.off + 0, none⟩ : Addr) = ad := by cases ad; simp_all
      rw [this] at h1
      simp [loadVar, run_isA ha, h1]
  · cases h

theorem OR.at {V Vp : GV → Value → Prop} {w : World} {hd : Hd} {o : GO} (hPV : ∀ g v, Vp g v → V g v) (h : OR V Vp w hd o) {i : Nat} {cs : List GV} (hc : cellsAt o i = some cs) {b : Nat} (hb : hd.A = some b) :
    ∃ W : Nat → Value, ∀ (j : Nat) g, cs[j]? = some g → w.cell? ⟨b, i * hd.sz + j, none⟩ = some (W j) ∧ flat (W j) = true ∧ V g (W j) := by
  cases o with
  | dead => cases hc
  | mp k l => cases hc
  | cells c =>
    simp only [cellsAt, Option.some.injEq] at hc
    subst hc
    obtain ⟨h0, b', arr, t, h1, h2, h3, h4, h5⟩ := h
    obtain rfl : b' = b := Option.some.inj (h1.symm.trans hb)
    refine ⟨fun j => arr.getD j undef, fun j g hg => ?_⟩
    have hj : j < arr.size := by rw [h3]; exact (List.getElem?_eq_some_iff.1 hg).1
    refine ⟨?_, h4 j hj, h5 j g hg⟩
    rw [h0]
    simp [World.cell?, h2, hj]
  | row e sz xs =>
    simp only [cellsAt] at hc
    obtain ⟨⟨h0, _⟩, h1, hz, l, h2, hf, h3⟩ := h
    refine ⟨fun j => l.getD (i * sz + j) undef, fun j g hg => ?_⟩
    have hi : i < xs.length := (List.getElem?_eq_some_iff.1 hc).1
    have hl := hz cs (List.mem_of_getElem? hc)
    have hj : j < sz := by rw [← hl]; exact (List.getElem?_eq_some_iff.1 hg).1
    have hk : i * sz + j < l.length := by
      rw [h2.1]
      calc i * sz + j < i * sz + sz := by omega
        _ = (i + 1) * sz := by rw [Nat.add_mul, Nat.one_mul]
        _ ≤ xs.length * sz := Nat.mul_le_mul_right _ hi
    have hcl := h2.cells (g := b) (by simp [Hd.val, hb, Value.ownBlock]) (i * sz + j) l[i * sz + j] (List.getElem?_eq_getElem hk)
    have hgd : l.getD (i * sz + j) undef = l[i * sz + j] := by simp [hk]
    refine ⟨?_, ?_, hPV _ _ (h3 i j cs g hc hg)⟩
    · simp only [hgd, h0]
      rw [add_addr rfl] at hcl
      simpa using hcl
    · simp only [hgd]; exact hf _ (List.getElem_mem hk)

/-! Storing. -/

/-- The cells of a value. -/
def gcells : GV → Option (List GV)
  | .any | .tup _ | .lit (.tuple _) => none
  | .agg cs => some cs
  | .lit (.agg vs) => if vs.toList.all flat then some (vs.toList.map .lit) else none
  | g => some [g]

theorem gcells_sound {Im Bw D : Nat → Prop} {ι : Nat → Hd} {w : World} {g : GV} {v : Value} {cs : List GV} (h : VR Im Bw D ι w g v) (hc : gcells g = some cs) :
    v.cells.size = cs.length ∧ (∀ u, u ∈ v.cells.toList → flat u = true) ∧ (∀ (i : Nat) g, cs[i]? = some g → VR Im Bw D ι w g (v.cells.getD i undef)) := by
  have one : ∀ (u : Value), flat u = true → u.cells = #[u] := fun u hu => by cases u <;> simp_all [flat, Value.cells]
  have fin : ∀ (u : Value) (g : GV), flat u = true → VR Im Bw D ι w g u → cs = [g] →
      u.cells.size = cs.length ∧ (∀ x, x ∈ u.cells.toList → flat x = true) ∧ (∀ (i : Nat) g, cs[i]? = some g → VR Im Bw D ι w g (u.cells.getD i undef)) := by
    rintro u g hu hr rfl
    rw [one u hu]
    refine ⟨rfl, by simp [hu], fun i g' hg => ?_⟩
    cases i with
    | zero => simp at hg; subst hg; simpa using hr
    | succ i => simp at hg
  have aggc : ∀ (cs' : List GV) (vs : Array Value), cs' = cs → vs.size = cs'.length → (∀ i, i < vs.size → flat (vs.getD i undef) = true) →
      (∀ (i : Nat) g, cs'[i]? = some g → VR Im Bw D ι w g (vs.getD i undef)) →
      (Value.agg vs).cells.size = cs.length ∧ (∀ u, u ∈ (Value.agg vs).cells.toList → flat u = true) ∧ (∀ (i : Nat) g, cs[i]? = some g → VR Im Bw D ι w g ((Value.agg vs).cells.getD i undef)) := by
    rintro cs' vs rfl hn hf hr
    refine ⟨hn, fun u hu => ?_, hr⟩
    obtain ⟨i, hi, rfl⟩ := List.mem_iff_getElem.1 hu
    have hi' : i < vs.size := by simpa [Value.cells] using hi
    have h1 := hf i hi'
    have h2 : vs.getD i undef = vs[i] := by simp [hi']
    rw [h2] at h1
    simpa [Value.cells] using h1
  cases h with
  | imm hi =>
    cases hi with
    | any => cases hc
    | lit v =>
      cases v <;> simp only [gcells, Option.some.injEq] at hc
      case agg vs =>
        split at hc
        · rename_i hall
          simp only [Option.some.injEq] at hc
          refine aggc _ vs hc (by simp) (fun i hi => ?_) (fun i g hg => ?_)
          · have := List.all_eq_true.1 hall vs[i] (by simp)
            simpa [hi] using this
          · simp only [List.getElem?_map, Option.map_eq_some_iff] at hg
            obtain ⟨u, hu, rfl⟩ := hg
            have : vs.getD i undef = u := by
              rw [Array.getElem?_toList] at hu
              simp [hu]
            rw [this]
            exact .imm (.lit u)
        · cases hc
      case tuple => cases hc
      all_goals exact fin _ _ rfl (.imm (.lit _)) hc.symm
    | zl A => exact fin _ _ rfl (.imm (.zl A)) (by simpa [gcells] using hc.symm)
    | ige n m h h2 => exact fin _ _ rfl (.imm (.ige n m h h2)) (by simpa [gcells] using hc.symm)
    | agg cs' vs hn hf h => exact aggc cs' vs (by simpa [gcells] using hc) hn hf fun i g hg => .imm (h i g hg)
    | tup => cases hc
    | sl bw sz xs ex A c V h1 h2 h3 h4 h5 h6 h7 => exact fin _ _ rfl (.imm (.sl bw sz xs ex A c V h1 h2 h3 h4 h5 h6 h7)) (by simpa [gcells] using hc.symm)
    | iadr bw cs' ad V h1 h2 h3 h4 => exact fin _ _ rfl (.imm (.iadr bw cs' ad V h1 h2 h3 h4)) (by simpa [gcells] using hc.symm)
  | agg cs' vs hn hf h => exact aggc cs' vs (by simpa [gcells] using hc) hn hf h
  | tup => cases hc
  | row id hD => exact fin _ _ rfl (.row id hD) (by simpa [gcells] using hc.symm)
  | sub id lo hi hD A c h1 h2 h3 h4 h5 h6 => exact fin _ _ rfl (.sub id lo hi hD A c h1 h2 h3 h4 h5 h6) (by simpa [gcells] using hc.symm)
  | win id lo hi hD A h1 h2 h3 h4 h5 h6 => exact fin _ _ rfl (.win id lo hi hD A h1 h2 h3 h4 h5 h6) (by simpa [gcells] using hc.symm)
  | adr id i j b hD hb => exact fin _ _ rfl (.adr id i j b hD hb) (by simpa [gcells] using hc.symm)
  | clo f cs' vs hn h => exact fin _ _ rfl (.clo f cs' vs hn h) (by simpa [gcells] using hc.symm)
  | mref id b hD hb => exact fin _ _ rfl (.mref id b hD hb) (by simpa [gcells] using hc.symm)

def setMany (cs : List GV) (j : Nat) : List GV → List GV
  | [] => cs
  | g :: r => setMany (cs.set j g) (j + 1) r

theorem setMany_length (vs : List GV) : ∀ (cs : List GV) (j : Nat), (setMany cs j vs).length = cs.length := by
  induction vs with
  | nil => intro cs j; rfl
  | cons g r ih => intro cs j; simp [setMany, ih]

theorem setMany_get (vs : List GV) : ∀ (cs : List GV) (j k : Nat), j + vs.length ≤ cs.length →
    (setMany cs j vs)[k]? = if j ≤ k ∧ k < j + vs.length then vs[k - j]? else cs[k]? := by
  induction vs with
  | nil => intro cs j k _; simp [setMany]; omega
  | cons g r ih =>
    intro cs j k h
    simp only [List.length_cons] at h
    rw [setMany, ih _ _ _ (by simp; omega)]
    simp only [List.length_cons]
    by_cases h1 : k = j
    · subst h1
      rw [if_neg (by omega), if_pos (by omega), List.getElem?_set_self (by omega)]
      simp
    · rw [List.getElem?_set_ne (by omega)]
      by_cases h2 : j + 1 ≤ k ∧ k < j + 1 + r.length
      · rw [if_pos h2, if_pos (by omega)]
        have : k - j = (k - (j + 1)) + 1 := by omega
        rw [this, List.getElem?_cons_succ]
      · rw [if_neg h2, if_neg (by omega)]

mutual
/-- No object is spoken of. -/
def noid : GV → Bool
  | .row _ | .sub _ _ _ | .win _ _ _ | .adr _ _ _ | .clo _ _ | .mref _ => false
  | .agg cs => noidL cs
  | .tup cs => noidL cs
  | _ => true
def noidL : List GV → Bool
  | [] => true
  | g :: l => noid g && noidL l
end

theorem noidL_get : ∀ {l : List GV} {i : Nat} {g : GV}, noidL l = true → l[i]? = some g → noid g = true
  | [], i, g, h, hg => by simp at hg
  | x :: l, 0, g, h, hg => by simp at hg; subst hg; simp only [noidL, Bool.and_eq_true] at h; exact h.1
  | x :: l, i + 1, g, h, hg => by simp only [noidL, Bool.and_eq_true] at h; exact noidL_get h.2 (by simpa using hg)

section
variable {Im Bw D : Nat → Prop} {ι : Nat → Hd} {w : World}
theorem VR.toVI {g : GV} {v : Value} (h : VR Im Bw D ι w g v) : noid g = true → VI Im Bw w g v := by
  induction h with
  | imm h => exact fun _ => h
  | agg cs vs hn hf _ ih => exact fun hg => .agg cs vs hn hf fun i g hg' => ih i g hg' (noidL_get (by simpa [noid] using hg) hg')
  | tup cs vs hn _ ih => exact fun hg => .tup cs vs hn fun i g hg' => ih i g hg' (noidL_get (by simpa [noid] using hg) hg')
  | row id h => exact fun hg => by simp [noid] at hg
  | sub id lo hi h A c a b c' d e k => exact fun hg => by simp [noid] at hg
  | win id lo hi h A a b c' d e k => exact fun hg => by simp [noid] at hg
  | adr id i j b h hb => exact fun hg => by simp [noid] at hg
  | clo n cs vs hn _ ih => exact fun hg => by simp [noid] at hg
  | mref id b h hb => exact fun hg => by simp [noid] at hg

theorem VR.toVP {g : GV} {v : Value} (h : VR Im Bw D ι w g v) (h1 : noid g = true) (h2 : Gh.nobw g = true) : VP Im w g v := (h.toVI h1).toVP h2
end

/-- Nothing borrowed, and no object. -/
def pureL : List GV → Bool
  | [] => true
  | g :: l => noid g && nobw g && pureL l

theorem pureL_get : ∀ {l : List GV} {i : Nat} {g : GV}, pureL l = true → l[i]? = some g → noid g = true ∧ nobw g = true
  | [], i, g, h, hg => by simp at hg
  | x :: l, 0, g, h, hg => by simp at hg; subst hg; simp only [pureL, Bool.and_eq_true] at h; exact h.1
  | x :: l, i + 1, g, h, hg => by simp only [pureL, Bool.and_eq_true] at h; exact pureL_get h.2 (by simpa using hg)

def putAt (o : GO) (i j : Nat) (vs : List GV) : Option GO :=
  match o with
  | .cells cs => if j + vs.length ≤ cs.length then some (.cells (setMany cs j vs)) else none
  | .row e sz xs => match xs[i]? with
    | some x => if j + vs.length ≤ x.length ∧ pureL vs = true then some (.row e sz (xs.set i (setMany x j vs))) else none
    | none => none
  | .dead => none
  | .mp _ _ => none

end Go.Gh


namespace Go.Gh

def spl {α : Type} (l : List α) (off : Nat) (us : List α) : List α := l.take off ++ us ++ l.drop (off + us.length)

theorem spl_get {α : Type} (l : List α) (off : Nat) (us : List α) (h : off + us.length ≤ l.length) (k : Nat) :
    (spl l off us)[k]? = if off ≤ k ∧ k < off + us.length then us[k - off]? else l[k]? := by
  unfold spl
  rw [List.append_assoc, List.getElem?_append, List.length_take, Nat.min_eq_left (by omega)]
  by_cases h1 : k < off
  · rw [if_pos h1, if_neg (by omega), List.getElem?_take, if_pos h1]
  · rw [if_neg h1, List.getElem?_append]
    by_cases h2 : k < off + us.length
    · rw [if_pos (by omega), if_pos (by omega)]
    · rw [if_neg (by omega), if_neg (by omega), List.getElem?_drop]
      congr 1; omega

theorem spl_length {α : Type} (l : List α) (off : Nat) (us : List α) (h : off + us.length ≤ l.length) : (spl l off us).length = l.length := by
  unfold spl; simp; omega

theorem spl_take {α : Type} (l : List α) (off : Nat) (us : List α) (m : Nat) (hm : m ≤ l.length) (h : off + us.length ≤ m) : (spl l off us).take m = spl (l.take m) off us := by
  apply List.ext_getElem?
  intro k
  rw [List.getElem?_take, spl_get l off us (by omega), spl_get (l.take m) off us (by simp; omega), List.getElem?_take]
  split
  · rfl
  · rw [if_neg (by omega)]

theorem storeCells_run {P : Program} {w : World} {b o : Nat} {t : TypeId} {arr : Array Value} (us : List Value) (hg : w.heap[b]? = some (.cells arr t (0, 0)))
    (hfit : o + us.length ≤ arr.size) (hf : ∀ u, u ∈ us → flat u = true) :
    (storeCells ⟨b, o, none⟩ us 0).run P w = .ok () (w.setRow b (spl arr.toList o us).toArray) := by
  have := run_storeCells_at P b o t us 0 arr w hg (by simpa using hfit) (fun v hv => flat_oneCell (hf v hv))
  simpa [spl] using this

theorem OR.store {P : Program} {V Vp : GV → Value → Prop} {w : World} {hd : Hd} {o o' : GO} (h : OR V Vp w hd o) {i j : Nat} {vs : List GV} (hp : putAt o i j vs = some o')
    {b : Nat} (hb : hd.A = some b) (us : List Value) (hl : us.length = vs.length) (hf : ∀ u, u ∈ us → flat u = true) :
    ∃ w', (storeCells ⟨b, i * hd.sz + j, none⟩ us 0).run P w = .ok () w' ∧ w'.os = w.os ∧ w'.tape = w.tape ∧ w'.output = w.output ∧ w'.heap.size = w.heap.size ∧
      (∀ k, k ≠ b → w'.heap[k]? = w.heap[k]?) ∧
      ∀ V' Vp' : GV → Value → Prop, (∀ g v, V g v → V' g v) → (∀ g v, Vp g v → Vp' g v) → (∀ (k : Nat) g, vs[k]? = some g → V' g (us.getD k undef)) → (pureL vs = true → ∀ (k : Nat) g, vs[k]? = some g → Vp' g (us.getD k undef)) → OR V' Vp' w' hd o' := by
  cases o with
  | dead => cases hp
  | mp k l => cases hp
  | cells cs =>
    simp only [putAt] at hp
    split at hp
    · rename_i hfit
      simp only [Option.some.injEq] at hp
      subst hp
      obtain ⟨h0, b', arr, t, h1, h2, h3, h4, h5⟩ := h
      obtain rfl : b' = b := Option.some.inj (h1.symm.trans hb)
      have hfit' : j + us.length ≤ arr.size := by omega
      refine ⟨w.setRow b' (spl arr.toList j us).toArray, ?_, rfl, rfl, rfl, by simp [World.setRow], fun k hk => setRow_other w b' k _ hk, fun V' Vp' hV hP hu _ => ?_⟩
      · rw [h0]; simp only [Nat.mul_zero, Nat.zero_add]
        exact storeCells_run us h2 hfit' hf
      · have hg : ∀ k, k < arr.size → (spl arr.toList j us).toArray.getD k undef = if j ≤ k ∧ k < j + us.length then us.getD (k - j) undef else arr.getD k undef := fun k hk => by
          have := spl_get arr.toList j us (by simpa using hfit') k
          simp only [Array.getD_eq_getD_getElem?, List.getElem?_toArray, this]
          split <;> simp
        have hsz : (spl arr.toList j us).toArray.size = arr.size := by simp [spl_length arr.toList j us (by simpa using hfit')]
        refine ⟨h0, b', _, t, h1, setRow_heap w b' arr _ t _ h2, by rw [hsz, setMany_length]; exact h3, fun k hk => ?_, fun k g hk => ?_⟩
        · rw [hsz] at hk
          rw [hg k hk]
          by_cases hr : j ≤ k ∧ k < j + us.length
          · rw [if_pos hr]
            have : k - j < us.length := by omega
            have e : us.getD (k - j) undef = us[k - j] := by simp [this]
            rw [e]; exact hf _ (List.getElem_mem this)
          · rw [if_neg hr]; exact h4 k hk
        · have hk' : k < arr.size := by
            have := (List.getElem?_eq_some_iff.1 hk).1
            rw [setMany_length] at this; omega
          rw [setMany_get vs cs j k hfit] at hk
          rw [hg k hk', hl]
          by_cases hr : j ≤ k ∧ k < j + vs.length
          · rw [if_pos hr] at hk ⊢
            exact hu _ _ hk
          · rw [if_neg hr] at hk ⊢
            exact hV _ _ (h5 k g hk)
    · cases hp
  | row e sz xs =>
    simp only [putAt] at hp
    split at hp
    · rename_i x hx
      split at hp
      · rename_i hfit0
        obtain ⟨hfit, hpu⟩ := hfit0
        simp only [Option.some.injEq] at hp
        subst hp
        obtain ⟨⟨h0, hsp⟩, h1, hz, l, h2, hfl, h3⟩ := h
        have hi : i < xs.length := (List.getElem?_eq_some_iff.1 hx).1
        have hxl := hz x (List.mem_of_getElem? hx)
        have hend : i * sz + sz ≤ xs.length * sz := by
          calc i * sz + sz = (i + 1) * sz := by rw [Nat.add_mul, Nat.one_mul]
            _ ≤ xs.length * sz := Nat.mul_le_mul_right _ hi
        have hlen : l.length = xs.length * sz := h2.1
        rcases h2.2 with ⟨hv, hn⟩ | ⟨b', cap, cur, hv, _, hg, hnc, hcm, hcs, htake⟩
        · simp [Hd.val, hb] at hv
        · have hbb : b' = b ∧ hd.n = xs.length ∧ hd.c = cap := by simp [Hd.val, hb] at hv; exact ⟨hv.1.symm, hv.2⟩
          obtain ⟨rfl, _, hcap⟩ := hbb
          have hcur : xs.length * sz ≤ cur.size := by rw [hcs]; exact Nat.mul_le_mul_right _ hnc
          have hfit' : i * sz + j + us.length ≤ l.length := by omega
          have hfit2 : i * sz + j + us.length ≤ cur.size := by omega
          refine ⟨w.setRow b' (spl cur.toList (i * sz + j) us).toArray, ?_, rfl, rfl, rfl, by simp [World.setRow], fun k hk => setRow_other w b' k _ hk, fun V' Vp' hV hP _ hu' => ?_⟩
          · rw [h0]
            exact storeCells_run us hg hfit2 hf
          · have hg' : ∀ k, (spl l (i * sz + j) us).getD k undef = if i * sz + j ≤ k ∧ k < i * sz + j + us.length then us.getD (k - (i * sz + j)) undef else l.getD k undef := fun k => by
              have := spl_get l (i * sz + j) us hfit' k
              simp only [List.getD_eq_getElem?_getD, this]
              split <;> rfl
            refine ⟨⟨h0, fun b2 arr2 t2 hb2 hg2 v2 hv2 => ?_⟩, by simpa using h1, fun y hy => ?_, spl l (i * sz + j) us, ⟨by rw [spl_length l _ us hfit', List.length_set]; exact hlen, .inr ⟨b', cap, _, ?_, by omega, setRow_heap w b' cur _ e _ hg, by simpa using hnc, hcm, ?_, ?_⟩⟩, fun v hv' => ?_, ?_⟩
            · obtain rfl : b' = b2 := Option.some.inj (hb.symm.trans hb2)
              have hgw := setRow_heap w b' cur (spl cur.toList (i * sz + j) us).toArray e (0, 0) hg
              rw [hgw] at hg2
              cases hg2
              have hv3 : v2 ∈ spl cur.toList (i * sz + j) us := by simpa using hv2
              unfold spl at hv3
              rcases List.mem_append.1 hv3 with hv3 | hv3
              · rcases List.mem_append.1 hv3 with hv3 | hv3
                · exact hsp b' cur e hb hg v2 (List.mem_of_mem_take hv3)
                · exact hf v2 hv3
              · exact hsp b' cur e hb hg v2 (List.mem_of_mem_drop hv3)
            · rcases List.mem_or_eq_of_mem_set hy with hy | rfl
              · exact hz y hy
              · rw [setMany_length]; exact hxl
            · rw [hv]; simp
            · simp [spl_length cur.toList _ us (by simpa using hfit2)]; exact hcs
            · rw [List.length_set, spl_take cur.toList _ us (xs.length * sz) (by simpa using hcur) (by omega), htake]
            · obtain ⟨k, hk, rfl⟩ := List.mem_iff_getElem.1 hv'
              have e : (spl l (i * sz + j) us)[k] = (spl l (i * sz + j) us).getD k undef := by simp [hk]
              rw [spl_length l _ us hfit'] at hk
              rw [e, hg' k]
              split
              · rename_i hr
                have : k - (i * sz + j) < us.length := by omega
                have e : us.getD (k - (i * sz + j)) undef = us[k - (i * sz + j)] := by simp [this]
                rw [e]; exact hf _ (List.getElem_mem this)
              · have e : l.getD k undef = l[k] := by simp [hk]
                rw [e]; exact hfl _ (List.getElem_mem hk)
            · intro i' j' x' g hx' hgj
              rw [hg']
              by_cases hii : i' = i
              · subst hii
                rw [List.getElem?_set_self (by omega)] at hx'
                simp only [Option.some.injEq] at hx'
                subst hx'
                rw [setMany_get vs x j j' hfit] at hgj
                split at hgj
                · rename_i hr
                  rw [if_pos (by omega)]
                  have : i' * sz + j' - (i' * sz + j) = j' - j := by omega
                  rw [this]
                  exact hu' hpu _ _ hgj
                · rename_i hr
                  rw [if_neg (by omega)]
                  exact hP _ _ (h3 i' j' x g hx hgj)
              · rw [List.getElem?_set_ne (Ne.symm hii)] at hx'
                have hx'l := hz x' (List.mem_of_getElem? hx')
                have hj' : j' < sz := by rw [← hx'l]; exact (List.getElem?_eq_some_iff.1 hgj).1
                rw [if_neg]
                · exact hP _ _ (h3 i' j' x' g hx' hgj)
                · intro hr
                  rcases Nat.lt_or_gt_of_ne hii with hlt | hlt
                  · have : i' * sz + sz ≤ i * sz := by
                      calc i' * sz + sz = (i' + 1) * sz := by rw [Nat.add_mul, Nat.one_mul]
                        _ ≤ i * sz := Nat.mul_le_mul_right _ hlt
                    omega
                  · have : i * sz + sz ≤ i' * sz := by
                      calc i * sz + sz = (i + 1) * sz := by rw [Nat.add_mul, Nat.one_mul]
                        _ ≤ i' * sz := Nat.mul_le_mul_right _ hlt
                    omega
      · cases hp
    · cases hp

end Go.Gh


namespace Go.Gh

structure Step where
  v : GV
  ups : List (Nat × GO) := []
  news : List GO := []

/-- A slice's content: its cells' count, and its elements. -/
def content (M : Nat → GO) : GV → Option (List (List GV))
  | .sl _ _ xs _ => some xs
  | .lit (.slice none 0 0) => some []
  | .row id => match M id with | .row _ _ xs => some xs | _ => none
  | .sub id lo hi => match M id with | .row _ _ xs => some ((xs.drop lo).take (hi - lo)) | _ => none
  | .win id lo hi => match M id with | .row _ _ xs => some ((xs.drop lo).take (hi - lo)) | _ => none
  | _ => none

def gid : GV → List Nat
  | .row id | .sub id _ _ | .win id _ _ | .adr id _ _ => [id]
  | _ => []

/-- Which objects an operation touches. -/
def tch (ρ : Rho) : Op → List Nat
  | .load _ a => gid (ρ a)
  | .store _ a _ => gid (ρ a)
  | .indexAddr _ x _ => gid (ρ x)
  | .slice _ x _ _ _ => gid (ρ x)
  | .convert _ _ x => gid (ρ x)
  | .call { callee := .builtin .len, args, .. } => match args.toList with | [x] => gid (ρ x) | _ => []
  | .call { callee := .builtin .append, args, .. } => match args.toList with | [x, y] => gid (ρ x) ++ gid (ρ y) | _ => []
  | _ => []

/-- Two whole numbers. -/
def gint (op : BinOp) (k : IntKind) (a b : Int) : Option Value :=
  match op with
  | .add => some (.int k (k.wrap (a + b)))
  | .sub => some (.int k (k.wrap (a - b)))
  | .mul => some (.int k (k.wrap (a * b)))
  | .quo => if b = 0 then none else some (.int k (k.wrap (a.tdiv b)))
  | .rem => if b = 0 then none else some (.int k (a.tmod b))
  | .and => some (.int k (k.wrap (BitVec.ofInt k.bits a &&& BitVec.ofInt k.bits b).toNat))
  | .or => some (.int k (k.wrap (BitVec.ofInt k.bits a ||| BitVec.ofInt k.bits b).toNat))
  | .xor => some (.int k (k.wrap (BitVec.ofInt k.bits a ^^^ BitVec.ofInt k.bits b).toNat))
  | .eql => some (.bool (a == b))
  | .neq => some (.bool (a != b))
  | .lss => some (.bool (decide (a < b)))
  | .leq => some (.bool (decide (a ≤ b)))
  | .gtr => some (.bool (decide (a > b)))
  | .geq => some (.bool (decide (a ≥ b)))
  | _ => none

def gshift (op : BinOp) (k : IntKind) (a b : Int) : Option Value :=
  if b < 0 then none else
  match op with
  | .shl => some (.int k (k.wrap (a * 2 ^ (min b.toNat k.bits))))
  | .shr => some (.int k (a.fdiv (2 ^ (min b.toNat k.bits))))
  | _ => none

/-- Two values of one cell. -/
def gbin (P : Program) (op : BinOp) (t : TypeId) (x y : Value) : Option Value :=
  match x, y with
  | .int k a, .int k' b => match op with
    | .shl | .shr => gshift op k a b
    | _ => if k = k' then gint op k a b else none
  | .bool a, .bool b => match P.underlying t, op with
    | some .bool, .eql => some (.bool (a == b))
    | some .bool, .neq => some (.bool (a != b))
    | _, _ => none
  | .string a, .string b => match op with
    | .eql => some (.bool (a.toList == b.toList))
    | .neq => some (.bool !(a.toList == b.toList))
    | .lss => some (.bool (Op.bytesLess a.toList b.toList))
    | _ => none
  | .pointer none, .pointer none => match P.underlying t, op with
    | some (.pointer _), .eql => some (.bool true)
    | some (.pointer _), .neq => some (.bool false)
    | _, _ => none
  | _, _ => none

/-- Are two lists of cells alike? -/
def geqL : List GV → List GV → Option Bool
  | [], [] => some true
  | .lit (.int k a) :: l, .lit (.int k' b) :: r => if k = k' then (geqL l r).map fun t => (a == b) && t else none
  | .lit (.bool a) :: l, .lit (.bool b) :: r => (geqL l r).map fun t => (a == b) && t
  | _, _ => none

def litCells : GV → Option (List GV)
  | .agg cs => some cs
  | .lit (.agg vs) => some (vs.toList.map .lit)
  | _ => none

/-- A struct all of whose fields are whole numbers or bools, one cell each, in order; an array of such. -/
def plainT (P : Program) (t : TypeId) : Bool :=
  match P.underlying t with
  | some (.struct fs) => fs.toList.zipIdx.all fun (f, i) => f.offset == i && f.name != "_" && aggT P f.type == some false &&
      (match P.underlying f.type with | some .bool | some (.int _) => true | _ => false)
  | some (.array _ e) => P.cellsOf e == 1 && (match P.underlying e with | some .bool | some (.int _) => true | _ => false)
  | _ => false

end Go.Gh


namespace Go.Gh
section
variable {P : Program} {o : Oper} {ρ : Rho} {nb : Nat} {M0 : Nat → GO}
variable {Im Bw D : Nat → Prop} {ι : Nat → Hd} {w : World}

theorem VR.lit_inv {v u : Value} (h : VR Im Bw D ι w (.lit v) u) : u = v := by
  cases h with
  | imm h => cases h; rfl

theorem VR.litv (v : Value) : VR Im Bw D ι w (.lit v) v := .imm (.lit v)

theorem VR.ige_inv {n : Int} {u : Value} (h : VR Im Bw D ι w (.ige n) u) : ∃ m, u = .int .i64 m ∧ n ≤ m ∧ m ≤ 9223372036854775807 := by
  cases h with
  | imm h => cases h with | ige n m h h2 => exact ⟨m, rfl, h, h2⟩

theorem VR.row_inv {id : Nat} {u : Value} (h : VR Im Bw D ι w (.row id) u) : D id ∧ u = (ι id).val := by
  cases h with
  | imm h => cases h
  | row id h => exact ⟨h, rfl⟩

theorem VR.adr_inv {id i j : Nat} {u : Value} (h : VR Im Bw D ι w (.adr id i j) u) : D id ∧ ∃ b, (ι id).A = some b ∧ u = .pointer (some ⟨b, i * (ι id).sz + j, none⟩) := by
  cases h with
  | imm h => cases h
  | adr id i j b h hb => exact ⟨h, b, hb, rfl⟩

theorem VR.iadr_inv {bw : Bool} {cs : List GV} {u : Value} (h : VR Im Bw D ι w (.iadr bw cs) u) :
    ∃ (ad : Addr) (V : Nat → Value), u = .pointer (some ad) ∧ ad.spot = none ∧
      (∀ (j : Nat) g, cs[j]? = some g → (bif bw then Bw ad.block else Im ad.block) ∧ w.cell? ⟨ad.block, ad.off + j, none⟩ = some (V j) ∧ flat (V j) = true ∧ VP Im w g (V j)) := by
  cases h with
  | imm h => cases h with | iadr bw cs ad V hs hc hf hv => exact ⟨ad, V, rfl, hs, fun j g hg => ⟨(hc j g hg).1, (hc j g hg).2, hf j g hg, hv j g hg⟩⟩

theorem VR.agg_inv {cs : List GV} {u : Value} (h : VR Im Bw D ι w (.agg cs) u) :
    ∃ vs : Array Value, u = .agg vs ∧ vs.size = cs.length ∧ (∀ (i : Nat), i < vs.size → flat (vs.getD i undef) = true) ∧ ∀ (i : Nat) g, cs[i]? = some g → VR Im Bw D ι w g (vs.getD i undef) := by
  cases h with
  | imm h => cases h with | agg cs vs hn hf h => exact ⟨vs, rfl, hn, hf, fun i g hg => .imm (h i g hg)⟩
  | agg cs vs hn hf h => exact ⟨vs, rfl, hn, hf, h⟩

theorem VR.tup_inv {cs : List GV} {u : Value} (h : VR Im Bw D ι w (.tup cs) u) :
    ∃ vs : Array Value, u = .tuple vs ∧ vs.size = cs.length ∧ ∀ (i : Nat) g, cs[i]? = some g → VR Im Bw D ι w g (vs.getD i undef) := by
  cases h with
  | imm h => cases h with | tup cs vs hn h => exact ⟨vs, rfl, hn, fun i g hg => .imm (h i g hg)⟩
  | tup cs vs hn h => exact ⟨vs, rfl, hn, h⟩

theorem VR.clo_inv {f : Nat} {cs : List GV} {u : Value} (h : VR Im Bw D ι w (.clo f cs) u) :
    ∃ vs : Array Value, u = .func (.func f) #[] vs ∧ vs.size = cs.length ∧ ∀ (i : Nat) g, cs[i]? = some g → VR Im Bw D ι w g (vs.getD i undef) := by
  cases h with
  | imm h => cases h
  | clo f cs vs hn h => exact ⟨vs, rfl, hn, h⟩

theorem VR.sub_inv {id lo hi : Nat} {u : Value} (h : VR Im Bw D ι w (.sub id lo hi) u) :
    D id ∧ lo ≤ hi ∧ hi ≤ (ι id).n ∧ ∃ A c, u = .slice A (hi - lo) c ∧ (hi - lo ≤ c ∧ c ≤ maxLen) ∧ (A = none → c = 0) ∧ (∀ ad, A = some ad → ad.spot = none) ∧
      (lo < hi → ∃ b, (ι id).A = some b ∧ A = some ⟨b, lo * (ι id).sz, none⟩) := by
  cases h with
  | imm h => cases h
  | sub id lo hi hD A c h1 h2 hc hA hs hb => exact ⟨hD, h1, h2, A, c, rfl, hc, hA, hs, hb⟩

theorem VR.win_inv {id lo hi : Nat} {u : Value} (h : VR Im Bw D ι w (.win id lo hi) u) :
    D id ∧ lo ≤ hi ∧ hi ≤ (ι id).n ∧ ((ι id).c = (ι id).n ∧ (ι id).n ≤ maxLen) ∧ ∃ A, u = .slice A (hi - lo) ((ι id).n - lo) ∧ (A = none → (ι id).n = 0) ∧ (∀ ad, A = some ad → ad.spot = none) ∧
      (lo < (ι id).n → ∃ b, (ι id).A = some b ∧ A = some ⟨b, lo * (ι id).sz, none⟩) := by
  cases h with
  | imm h => cases h
  | win id lo hi hD A h1 h2 hc hA hs hb => exact ⟨hD, h1, h2, hc, A, rfl, hA, hs, hb⟩

theorem VR.win_sub {id lo hi : Nat} {u : Value} (h : VR Im Bw D ι w (.win id lo hi) u) : VR Im Bw D ι w (.sub id lo hi) u := by
  obtain ⟨hD, h1, h2, hc, A, rfl, hA, hs, hb⟩ := h.win_inv
  exact .sub id lo hi hD A _ h1 h2 (by omega) (fun h => by have := hA h; omega) hs fun h => hb (by omega)

theorem VR.zl_inv {u : Value} (h : VR Im Bw D ι w .zl u) : ∃ A, u = .slice A 0 0 := by
  cases h with
  | imm h => cases h with | zl A => exact ⟨A, rfl⟩

theorem VR.sl_inv {bw : Bool} {sz : Nat} {xs ex : List (List GV)} {u : Value} (h : VR Im Bw D ι w (.sl bw sz xs ex) u) :
    ∃ (A : Option Addr) (c : Nat) (V : Nat → Nat → Value), u = .slice A xs.length c ∧ (xs.length + ex.length ≤ c ∧ c ≤ maxLen) ∧ (A = none → c = 0) ∧ (∀ ad, A = some ad → ad.spot = none ∨ xs ++ ex = []) ∧
      (∀ x, x ∈ xs ++ ex → x.length = sz) ∧
      (∀ (i j : Nat) x g, (xs ++ ex)[i]? = some x → x[j]? = some g →
        ∃ ad, A = some ad ∧ (bif bw then Bw ad.block else Im ad.block) ∧ w.cell? ⟨ad.block, ad.off + (i * sz + j), none⟩ = some (V i j) ∧ flat (V i j) = true ∧ VP Im w g (V i j)) := by
  cases h with
  | imm h => cases h with
    | sl bw sz xs ex A c V hc hA hs hsz hcell hf hv =>
      refine ⟨A, c, V, rfl, hc, hA, hs, hsz, fun i j x g hx hg => ?_⟩
      obtain ⟨ad, h1, h2, h3⟩ := hcell i j x g hx hg
      exact ⟨ad, h1, h2, h3, hf i j x g hx hg, hv i j x g hx hg⟩

/-! The operations. -/

theorem os_move {x : Operand} (ho : o.op = .move x ∨ o.op = .assign x) : OpS P o ρ nb M0 [] (ρ x) [] [] := by
  refine .quiet fun Γ D ι M w a _ hV _ => ⟨a.eval x, hV x ?_, ?_⟩
  · rcases ho with ho | ho <;> simp [ho, Op.operands]
  · rcases ho with ho | ho <;> simp [execOp, ho]

theorem os_pick {c x y : Operand} {t : Bool} (ho : o.op = .pick c x y) (hc : ρ c = .lit (.bool t)) : OpS P o ρ nb M0 [] (bif t then ρ x else ρ y) [] [] := by
  refine .quiet fun Γ D ι M w a _ hV _ => ?_
  have h1 := (hc ▸ hV c (by simp [ho, Op.operands])).lit_inv
  cases t with
  | true => exact ⟨a.eval x, hV x (by simp [ho, Op.operands]), by simp [execOp, ho, h1, asBool]⟩
  | false => exact ⟨a.eval y, hV y (by simp [ho, Op.operands]), by simp [execOp, ho, h1, asBool]⟩

theorem run_eqGuard_int {op : BinOp} {t : TypeId} {x y : Operand} {k k' : IntKind} {a b : Int} : (eqGuard op t x y (.int k a) (.int k' b)).run P w = .ok () w := by
  unfold eqGuard; cases op <;> simp <;> rfl

theorem run_gint {op : BinOp} {t : TypeId} {k : IntKind} {a b : Int} {r : Value} (h1 : op ≠ .shl) (h2 : op ≠ .shr) (h : gint op k a b = some r) :
    (binOp op t (.int k a) (.int k b)).run P w = .ok r w := by
  cases op <;> simp only [gint, Option.some.injEq, ne_eq, reduceCtorEq, not_false_eq_true] at h h1 h2
  all_goals first
    | (subst h; simp [binOp, Op.intArith, Op.intBits, Op.intCmp]; done)
    | (split at h
       · cases h
       · rename_i hb
         simp only [Option.some.injEq] at h
         subst h
         simp [binOp, Op.intDiv, hb])
    | skip

theorem run_gshift {op : BinOp} {t : TypeId} {k k' : IntKind} {a b : Int} {r : Value} (h : gshift op k a b = some r) :
    (binOp op t (.int k a) (.int k' b)).run P w = .ok r w := by
  unfold gshift at h
  split at h
  · cases h
  · rename_i hb
    cases op <;> simp only [Option.some.injEq, reduceCtorEq] at h
    all_goals
      subst h
      simp [binOp, Op.shift, hb]

theorem run_equalIn_bool {d : Nat} {t : TypeId} (hu : P.underlying t = some .bool) (a b : Bool) : (Op.equalIn (d + 1) t (.bool a) (.bool b)).run P w = .ok (a == b) w := by
  rw [Op.equalIn]
  simp only [Sem.run_bind, run_und hu, Result.andThen_ok, Sem.run_pure]

theorem run_equalIn_int {d : Nat} {t : TypeId} {k : IntKind} (hu : P.underlying t = some (.int k)) (q : IntKind) (a b : Int) : (Op.equalIn (d + 1) t (.int q a) (.int q b)).run P w = .ok (a == b) w := by
  rw [Op.equalIn]
  simp only [Sem.run_bind, run_und hu, Result.andThen_ok, Sem.run_pure, if_true]

theorem run_equalIn_nilp {d : Nat} {t e : TypeId} (hu : P.underlying t = some (.pointer e)) : (Op.equalIn (d + 1) t (.pointer none) (.pointer none)).run P w = .ok true w := by
  rw [Op.equalIn]
  simp only [Sem.run_bind, run_und hu, Result.andThen_ok, Sem.run_pure]
  rfl

theorem run_equal_bool {t : TypeId} (hu : P.underlying t = some .bool) (a b : Bool) : (Op.equal t (.bool a) (.bool b)).run P w = .ok (a == b) w :=
  run_equalIn_bool (d := 9999) hu a b

theorem run_equal_nilp {t e : TypeId} (hu : P.underlying t = some (.pointer e)) : (Op.equal t (.pointer none) (.pointer none)).run P w = .ok true w :=
  run_equalIn_nilp (d := 9999) hu

theorem run_eqGuard_lit {op : BinOp} {t : TypeId} {x y : Operand} {a b : Value} (ha : ∀ vs, a ≠ .agg vs) (hn : a ≠ .nilIface) : (eqGuard op t x y a b).run P w = .ok () w := by
  unfold eqGuard
  cases a <;> first | exact absurd rfl (ha _) | exact absurd rfl hn | (cases op <;> rfl)

theorem os_bin {op : BinOp} {t yt : TypeId} {x y : Operand} {a b r : Value} (ho : o.op = .binOp op t x y yt) (hx : ρ x = .lit a) (hy : ρ y = .lit b)
    (h : gbin P op t a b = some r) : OpS P o ρ nb M0 [] (.lit r) [] [] := by
  refine .quiet fun Γ D ι M w ac _ hV _ => ⟨r, .litv r, ?_⟩
  have h1 := (hx ▸ hV x (by simp [ho, Op.operands])).lit_inv
  have h2 := (hy ▸ hV y (by simp [ho, Op.operands])).lit_inv
  simp only [execOp, ho, h1, h2, Sem.run_bind]
  cases a <;> cases b <;> simp only [gbin, reduceCtorEq] at h
  case int.int k a k' b =>
    rw [run_eqGuard_int]
    simp only [Result.andThen_ok, Sem.run_pure]
    split at h
    · rw [run_gshift h]; rfl
    · rw [run_gshift h]; rfl
    · split at h
      · rename_i hk
        subst hk
        rw [run_gint (by assumption) (by assumption) h]; rfl
      · cases h
  case bool.bool a b =>
    rw [run_eqGuard_lit (by simp) (by simp)]
    simp only [Result.andThen_ok]
    split at h
    · rename_i hu
      simp only [Option.some.injEq] at h
      subst h
      simp only [binOp, Sem.run_bind, run_equal_bool hu, Result.andThen_ok, Sem.run_pure]
    · rename_i hu
      simp only [Option.some.injEq] at h
      subst h
      simp only [binOp, Sem.run_bind, run_equal_bool hu, Result.andThen_ok, Sem.run_pure]
      rfl
    · cases h
  case string.string a b =>
    rw [run_eqGuard_lit (by simp) (by simp)]
    simp only [Result.andThen_ok]
    split at h
    all_goals first
      | (simp only [Option.some.injEq] at h
         subst h
         simp only [binOp, Op.stringOp, Sem.run_pure, Result.andThen_ok])
      | cases h
  case pointer.pointer a b =>
    cases a <;> cases b <;> simp only [reduceCtorEq] at h
    rw [run_eqGuard_lit (by simp) (by simp)]
    simp only [Result.andThen_ok]
    split at h
    · rename_i hu
      simp only [Option.some.injEq] at h
      subst h
      simp only [binOp, Sem.run_bind, run_equal_nilp hu, Result.andThen_ok, Sem.run_pure]
    · rename_i hu
      simp only [Option.some.injEq] at h
      subst h
      simp only [binOp, Sem.run_bind, run_equal_nilp hu, Result.andThen_ok, Sem.run_pure]
      rfl
    · cases h

end
end Go.Gh


namespace Go.Gh
section
variable {P : Program} {o : Oper} {ρ : Rho} {nb : Nat} {M0 : Nat → GO}
variable {Im Bw D : Nat → Prop} {ι : Nat → Hd} {w : World}

/-- A pointer that is not nil, beside nil. -/
def notNil : GV → Bool
  | .adr .. | .iadr .. => true
  | _ => false

theorem notNil_inv {g : GV} (hg : notNil g = true) {u : Value} (h : VR Im Bw D ι w g u) : ∃ ad, u = .pointer (some ad) := by
  cases g <;> simp only [notNil, Bool.false_eq_true] at hg
  · obtain ⟨_, b, _, rfl⟩ := h.adr_inv; exact ⟨_, rfl⟩
  · obtain ⟨ad, V, rfl, _⟩ := h.iadr_inv; exact ⟨_, rfl⟩

theorem run_equalIn_ptr {d : Nat} {t e : TypeId} (hu : P.underlying t = some (.pointer e)) (a : Addr) : (Op.equalIn (d + 1) t (.pointer (some a)) (.pointer none)).run P w = .ok false w := by
  rw [Op.equalIn]
  simp only [Sem.run_bind, run_und hu, Result.andThen_ok, Sem.run_pure]

theorem run_equal_ptr {t e : TypeId} (hu : P.underlying t = some (.pointer e)) (a : Addr) : (Op.equal t (.pointer (some a)) (.pointer none)).run P w = .ok false w :=
  run_equalIn_ptr (d := 9999) hu a

theorem os_ptr {t yt e : TypeId} {x y : Operand} {op : BinOp} {r : Bool} (ho : o.op = .binOp op t x y yt) (hx : notNil (ρ x) = true) (hy : ρ y = .lit (.pointer none))
    (hu : P.underlying t = some (.pointer e)) (hr : (op = .eql ∧ r = false) ∨ (op = .neq ∧ r = true)) : OpS P o ρ nb M0 [] (.lit (.bool r)) [] [] := by
  refine .quiet fun Γ D ι M w ac _ hV _ => ⟨.bool r, .litv _, ?_⟩
  obtain ⟨ad, h1⟩ := notNil_inv hx (hV x (by simp [ho, Op.operands]))
  have h2 := (hy ▸ hV y (by simp [ho, Op.operands])).lit_inv
  simp only [execOp, ho, h1, h2, Sem.run_bind]
  rw [run_eqGuard_lit (by simp) (by simp)]
  rcases hr with ⟨rfl, rfl⟩ | ⟨rfl, rfl⟩ <;>
  simp only [binOp, Sem.run_bind, run_equal_ptr hu, Result.andThen_ok, Sem.run_pure] <;> rfl

/-- Structs of plain fields, held against each other. -/
def geqF (P : Program) (xs ys : List GV) : List Field → Option Bool
  | [] => some true
  | f :: fs => if f.name = "_" then none else
    match aggT P f.type, P.underlying f.type, xs[f.offset]?, ys[f.offset]? with
    | some false, some (.int _), some (.lit (.int k a)), some (.lit (.int k' b)) => if k = k' then (geqF P xs ys fs).map fun t => (a == b) && t else none
    | some false, some .bool, some (.lit (.bool a)), some (.lit (.bool b)) => (geqF P xs ys fs).map fun t => (a == b) && t
    | _, _, _, _ => none

theorem geqF_sound {d : Nat} {xs ys : List GV} {us vs : Array Value} (hx : ∀ (i : Nat) v, xs[i]? = some (.lit v) → us[i]? = some v) (hy : ∀ (i : Nat) v, ys[i]? = some (.lit v) → vs[i]? = some v) :
    ∀ (fs : List Field) (r : Bool), geqF P xs ys fs = some r → (Op.eqFields (d + 1) us vs fs).run P w = .ok r w
  | [], r, h => by simp only [geqF, Option.some.injEq] at h; subst h; rfl
  | f :: fs, r, h => by
    have part1 : ∀ (us : Array Value) v, aggT P f.type = some false → us[f.offset]? = some v → (part f.type us f.offset).run P w = .ok v w := fun us v ha hv => by
      simp [part, run_isA ha, hv]
    simp only [geqF] at h
    split at h
    · cases h
    · rename_i hname
      split at h
      · rename_i ha hu hxa hyb
        split at h
        · rename_i hk
          subst hk
          obtain ⟨t, ht, hr⟩ := Option.map_eq_some_iff.1 h
          have ih := geqF_sound (d := d) hx hy fs t ht
          simp only [Op.eqFields, ne_eq, hname, not_false_eq_true, if_true, Sem.run_bind, part1 us _ ha (hx _ _ hxa), part1 vs _ ha (hy _ _ hyb), Result.andThen_ok, run_equalIn_int hu]
          subst hr
          rw [Sem.run_ite]
          split
          · rename_i hb
            simp only [Bool.not_eq_true'] at hb
            rw [hb]; rfl
          · rename_i hb
            simp only [Bool.not_eq_true', Bool.not_eq_false] at hb
            rw [hb, ih]; rfl
        · cases h
      · rename_i ha hu hxa hyb
        obtain ⟨t, ht, hr⟩ := Option.map_eq_some_iff.1 h
        have ih := geqF_sound (d := d) hx hy fs t ht
        simp only [Op.eqFields, ne_eq, hname, not_false_eq_true, if_true, Sem.run_bind, part1 us _ ha (hx _ _ hxa), part1 vs _ ha (hy _ _ hyb), Result.andThen_ok, run_equalIn_bool hu]
        subst hr
        rw [Sem.run_ite]
        split
        · rename_i hb
          simp only [Bool.not_eq_true'] at hb
          rw [hb]; rfl
        · rename_i hb
          simp only [Bool.not_eq_true', Bool.not_eq_false] at hb
          rw [hb, ih]; rfl
      · cases h

theorem litCells_sound {g : GV} {cs : List GV} {v : Value} (hc : litCells g = some cs) (h : VR Im Bw D ι w g v) :
    ∃ vs : Array Value, v = .agg vs ∧ vs.size = cs.length ∧ ∀ (i : Nat) u, cs[i]? = some (.lit u) → vs[i]? = some u := by
  cases g <;> try (cases hc; done)
  case lit u =>
    cases u <;> simp only [litCells, Option.some.injEq, reduceCtorEq] at hc
    case agg vs =>
      have := h.lit_inv
      subst this; subst hc
      refine ⟨vs, rfl, by simp, fun i u hu => ?_⟩
      simp only [List.getElem?_map, Array.getElem?_toList, Option.map_eq_some_iff] at hu
      obtain ⟨x, hx, h2⟩ := hu
      cases h2
      exact hx
  case agg cs' =>
    simp only [litCells, Option.some.injEq] at hc
    subst hc
    obtain ⟨vs, rfl, hn, hf, hr⟩ := h.agg_inv
    refine ⟨vs, rfl, hn, fun i u hu => ?_⟩
    have hi : i < vs.size := by rw [hn]; exact (List.getElem?_eq_some_iff.1 hu).1
    have := (hr i _ hu).lit_inv
    have e : vs.getD i undef = vs[i] := by simp [hi]
    rw [e] at this
    rw [Array.getElem?_eq_getElem hi, this]

theorem os_aggEq {t yt : TypeId} {x y : Operand} {op : BinOp} {r r' : Bool} {xs ys : List GV} {fs : Array Field} (ho : o.op = .binOp op t x y yt) (hx : litCells (ρ x) = some xs) (hy : litCells (ρ y) = some ys)
    (hu : P.underlying t = some (.struct fs)) (hg : P.eqGuardType P.depth t = false) (hp : P.stoodInHeld t = false) (hr : geqF P xs ys fs.toList = some r)
    (hop : (op = .eql ∧ r' = r) ∨ (op = .neq ∧ r' = !r)) : OpS P o ρ nb M0 [] (.lit (.bool r')) [] [] := by
  refine .quiet fun Γ D ι M w ac _ hV _ => ⟨.bool r', .litv _, ?_⟩
  obtain ⟨us, h1, hn1, hu1⟩ := litCells_sound hx (hV x (by simp [ho, Op.operands]))
  obtain ⟨vs, h2, hn2, hu2⟩ := litCells_sound hy (hV y (by simp [ho, Op.operands]))
  have hf : P.fieldsOf t = fs := by simp [Program.fieldsOf, hu]
  have he : (Op.equalIn 10000 t (.agg us) (.agg vs)).run P w = .ok r w := by
    rw [run_equalIn_struct w 9999 t us vs (by rw [hf]; exact hu) hp, hf]
    exact geqF_sound (d := 9998) hu1 hu2 _ _ hr
  simp only [execOp, ho, h1, h2, Sem.run_bind, run_eqGuard_agg w op t x y us vs hg, Result.andThen_ok]
  rcases hop with ⟨rfl, rfl⟩ | ⟨rfl, rfl⟩
  · rw [run_eql_struct w t us vs, he]; rfl
  · rw [run_neq_struct w t us vs, he]; rfl

theorem os_not {t : TypeId} {x : Operand} {b : Bool} (ho : o.op = .unOp .not t x) (hx : ρ x = .lit (.bool b)) : OpS P o ρ nb M0 [] (.lit (.bool !b)) [] [] := by
  refine .quiet fun Γ D ι M w ac _ hV _ => ⟨_, .litv _, ?_⟩
  have h1 := (hx ▸ hV x (by simp [ho, Op.operands])).lit_inv
  simp [execOp, ho, h1, Op.unary]

theorem os_neg {t : TypeId} {x : Operand} {k : IntKind} {n : Int} (ho : o.op = .unOp .neg t x) (hx : ρ x = .lit (.int k n)) : OpS P o ρ nb M0 [] (.lit (.int k (k.wrap (0 - n)))) [] [] := by
  refine .quiet fun Γ D ι M w ac _ hV _ => ⟨_, .litv _, ?_⟩
  have h1 := (hx ▸ hV x (by simp [ho, Op.operands])).lit_inv
  simp [execOp, ho, h1, Op.unary, Op.intArith]

theorem os_conv {src dst : TypeId} {x : Operand} {k k' ks : IntKind} {n : Int} (ho : o.op = .convert src dst x) (hs : P.underlying src = some (.int ks)) (hd : P.underlying dst = some (.int k')) (hx : ρ x = .lit (.int k n)) :
    OpS P o ρ nb M0 [] (.lit (.int k' (k'.wrap n))) [] [] := by
  refine .quiet fun Γ D ι M w ac _ hV _ => ⟨_, .litv _, ?_⟩
  have h1 := (hx ▸ hV x (by simp [ho, Op.operands])).lit_inv
  simp [execOp, ho, h1, convert, run_und hs, run_und hd, Conv.intToInt]

def isAddr : GV → Bool
  | .adr .. | .iadr .. | .clo .. | .lit (.func (.func _) _ _) => true
  | _ => false

theorem os_nil {x : Operand} (ho : o.op = .nilCheck x) (hx : isAddr (ρ x) = true) : OpS P o ρ nb M0 [] (ρ x) [] [] := by
  refine .quiet fun Γ D ι M w ac _ hV _ => ⟨ac.eval x, hV x (by simp [ho, Op.operands]), ?_⟩
  have h := hV x (by simp [ho, Op.operands])
  have : (∃ ad, ac.eval x = .pointer (some ad)) ∨ ∃ f a b, ac.eval x = .func (.func f) a b := by
    generalize ρ x = g at h hx
    cases g <;> try (simp [isAddr] at hx; done)
    · rename_i v
      have h2 := h.lit_inv
      cases v <;> try (simp [isAddr] at hx; done)
      rename_i fn a b
      cases fn <;> try (simp [isAddr] at hx; done)
      exact .inr ⟨_, _, _, h2⟩
    · obtain ⟨_, b, _, h2⟩ := h.adr_inv; exact .inl ⟨_, h2⟩
    · obtain ⟨ad, V, h2, _⟩ := h.iadr_inv; exact .inl ⟨_, h2⟩
    · obtain ⟨vs, h2, _⟩ := h.clo_inv; exact .inr ⟨_, _, _, h2⟩
  rcases this with ⟨ad, h2⟩ | ⟨f, a, b, h2⟩
  · simp [execOp, ho, h2]
  · simp [execOp, ho, h2]

theorem os_extract {x : Operand} {i : Nat} {cs : List GV} {g : GV} (ho : o.op = .extract x i) (hx : ρ x = .tup cs) (hg : cs[i]? = some g) : OpS P o ρ nb M0 [] g [] [] := by
  refine .quiet fun Γ D ι M w ac _ hV _ => ?_
  obtain ⟨vs, h1, hn, hr⟩ := (hx ▸ hV x (by simp [ho, Op.operands])).tup_inv
  refine ⟨vs.getD i undef, hr i g hg, ?_⟩
  have hi : i < vs.size := by rw [hn]; exact (List.getElem?_eq_some_iff.1 hg).1
  simp [execOp, ho, h1, Instr.extract, hi]

theorem os_load {t : TypeId} {x : Operand} {id i j : Nat} {cs : List GV} {g : GV} (ho : o.op = .load t x) (hx : ρ x = .adr id i j) (hc : cellsAt (M0 id) i = some cs) (hl : ldv P t (cs.drop j) = some g) :
    OpS P o ρ nb M0 [id] g [] [] := by
  refine .quiet fun Γ D ι M w ac hS hV hM => ?_
  obtain ⟨hD, b, hb, h1⟩ := (hx ▸ hV x (by simp [ho, Op.operands])).adr_inv
  obtain ⟨W, hW⟩ := (hS.obj id).at (fun g v h => .imm h.toVI) (i := i) (cs := cs) (by rw [hM id (by simp)]; exact hc) hb
  obtain ⟨v, hr, hv⟩ := ldv_sound (P := P) (ad := ⟨b, i * (ι id).sz + j, none⟩) rfl (fun k => W (j + k)) (fun k g hg => by
    rw [List.getElem?_drop] at hg
    have := hW (j + k) g hg
    simpa [Nat.add_assoc] using this) hl
  exact ⟨v, hv, by simp [execOp, ho, h1, Instr.loadAt, Instr.sureAddr, hr]⟩

theorem os_loadI {t : TypeId} {x : Operand} {bw : Bool} {cs : List GV} {g : GV} (ho : o.op = .load t x) (hx : ρ x = .iadr bw cs) (hl : ldv P t cs = some g) :
    OpS P o ρ nb M0 [] g [] [] := by
  refine .quiet fun Γ D ι M w ac hS hV hM => ?_
  obtain ⟨ad, V, h1, hs, hc⟩ := (hx ▸ hV x (by simp [ho, Op.operands])).iadr_inv
  obtain ⟨v, hr, hv⟩ := ldv_sound (P := P) (D := D) (ι := ι) hs V (fun k g hg => ⟨(hc k g hg).2.1, (hc k g hg).2.2.1, .imm (hc k g hg).2.2.2.toVI⟩) hl
  exact ⟨v, hv, by simp [execOp, ho, h1, Instr.loadAt, Instr.sureAddr, hr]⟩

theorem os_store {t : TypeId} {x y : Operand} {id i j : Nat} {vs : List GV} {ob : GO} {d : TypeDesc} (ho : o.op = .store t x y) (hx : ρ x = .adr id i j) (hy : gcells (ρ y) = some vs)
    (hu : P.underlying t = some d) (hsz : P.cellsOf t = vs.length) (hp : putAt (M0 id) i j vs = some ob) : OpS P o ρ nb M0 [id] .any [(id, ob)] [] := by
  refine .write (fun h => by rw [h] at hp; cases hp) fun Γ D ι M w ac hS hV hM => ?_
  obtain ⟨hD, b, hb, h1⟩ := (hx ▸ hV x (by simp [ho, Op.operands])).adr_inv
  obtain ⟨hn, hf, hr⟩ := gcells_sound (hV y (by simp [ho, Op.operands])) hy
  obtain ⟨w', h2, h3, h4, h5, h6, h7, h8⟩ := OR.store (P := P) (hS.obj id) (by rw [hM]; exact hp) hb (ac.eval y).cells.toList (by simpa using hn) hf
  refine ⟨w', ?_, h3, h4, h5, by omega, fun k hk => h7 k fun e => hk (e ▸ hb), fun hVR hVP => ?_⟩
  · have hne : (ac.eval y).cells.size = P.cellsOf t := by rw [hn, hsz]
    simp [execOp, ho, h1, Instr.storeAt, Instr.sureAddr, storeVar, run_szU hu, hne, h2]
  · have e : ∀ k, (ac.eval y).cells.toList.getD k undef = (ac.eval y).cells.getD k undef := fun k => by simp
    refine h8 _ _ hVR hVP (fun k g hg => ?_) fun hp k g hg => ?_
    · rw [e]; exact hVR _ _ (hr k g hg)
    · rw [e]; exact hVP _ _ ((hr k g hg).toVP (pureL_get hp hg).1 (pureL_get hp hg).2)

end
end Go.Gh


namespace Go.Gh
section
variable {P : Program} {o : Oper} {ρ : Rho} {nb : Nat} {M0 : Nat → GO}
variable {Im Bw D : Nat → Prop} {ι : Nat → Hd} {w : World}

theorem run_fieldPlace {f : Field} {ad : Addr} {i : TypeInfo} (hi : P.info? f.type = some i) (hne : P.cellsOf f.type ≠ 0) : (fieldPlace ad f).run P w = .ok (ad.add f.offset) w := by
  simp [fieldPlace, run_sz hi, hne]

theorem cellsOf_info {t : TypeId} (h : P.cellsOf t ≠ 0) : ∃ i, P.info? t = some i := by
  unfold Program.cellsOf at h
  cases e : P.info? t with
  | none => simp [e] at h
  | some i => exact ⟨i, rfl⟩

theorem os_field {s : TypeId} {x : Operand} {n id i j : Nat} {fs : Array Field} {f : Field} (ho : o.op = .fieldAddr s x n) (hx : ρ x = .adr id i j) (hs : P.underlying s = some (.struct fs)) (hf : fs[n]? = some f)
    (hne : P.cellsOf f.type ≠ 0) : OpS P o ρ nb M0 [] (.adr id i (j + f.offset)) [] [] := by
  refine .quiet fun Γ D ι M w ac _ hV _ => ?_
  obtain ⟨hD, b, hb, h1⟩ := (hx ▸ hV x (by simp [ho, Op.operands])).adr_inv
  obtain ⟨ti, hi⟩ := cellsOf_info hne
  refine ⟨_, .adr id i (j + f.offset) b hD hb, ?_⟩
  simp only [execOp, ho, h1, Instr.fieldAt, Sem.run_bind, run_und hs, Result.andThen_ok, hf, Instr.sureAddr, Sem.run_pure, run_fieldPlace hi hne, add_lit]
  simp [Nat.add_assoc]

theorem os_fieldI {s : TypeId} {x : Operand} {n : Nat} {bw : Bool} {cs : List GV} {fs : Array Field} {f : Field} (ho : o.op = .fieldAddr s x n) (hx : ρ x = .iadr bw cs) (hs : P.underlying s = some (.struct fs)) (hf : fs[n]? = some f)
    (hne : P.cellsOf f.type ≠ 0) : OpS P o ρ nb M0 [] (.iadr bw (cs.drop f.offset)) [] [] := by
  refine .quiet fun Γ D ι M w ac _ hV _ => ?_
  obtain ⟨ad, V, h1, hsp, hc⟩ := (hx ▸ hV x (by simp [ho, Op.operands])).iadr_inv
  obtain ⟨ti, hi⟩ := cellsOf_info hne
  refine ⟨.pointer (some ⟨ad.block, ad.off + f.offset, none⟩), .imm (.iadr bw _ _ (fun j => V (f.offset + j)) rfl (fun j g hg => ?_) (fun j g hg => ?_) (fun j g hg => ?_)), ?_⟩
  · rw [List.getElem?_drop] at hg
    have := hc _ g hg
    exact ⟨this.1, by simpa [Nat.add_assoc] using this.2.1⟩
  · rw [List.getElem?_drop] at hg; exact (hc _ g hg).2.2.1
  · rw [List.getElem?_drop] at hg; exact (hc _ g hg).2.2.2
  · simp [execOp, ho, h1, Instr.fieldAt, run_und hs, hf, Instr.sureAddr, run_fieldPlace hi hne, add_addr hsp]

theorem run_asIntOf {k : IntKind} {n : Int} : (asIntOf (.int k n)).run P w = .ok (k, n) w := rfl

/-- An element's address in a slice that is read alone. -/
theorem os_idxI {t e : TypeId} {x y : Operand} {bw : Bool} {sz : Nat} {xs ex : List (List GV)} {k : IntKind} {n : Int} {cs : List GV} (ho : o.op = .indexAddr t x y) (ht : P.underlying t = some (.slice e)) (hsz : P.cellsOf e = sz) (hpos : sz ≠ 0)
    (hx : ρ x = .sl bw sz xs ex) (hy : ρ y = .lit (.int k n)) (h0 : 0 ≤ n) (h1 : n < xs.length) (hc : xs[n.toNat]? = some cs) : OpS P o ρ nb M0 [] (.iadr bw cs) [] [] := by
  refine .quiet fun Γ D ι M w ac _ hV _ => ?_
  obtain ⟨A, c, V, e1, hcap, hA, hs, hl, hcell⟩ := (hx ▸ hV x (by simp [ho, Op.operands])).sl_inv
  have e2 := (hy ▸ hV y (by simp [ho, Op.operands])).lit_inv
  obtain ⟨ti, hi⟩ := cellsOf_info (P := P) (t := e) (by omega)
  have hlt : n.toNat < xs.length := by omega
  have hin : (xs ++ ex)[n.toNat]? = some cs := by rw [List.getElem?_append_left hlt]; exact hc
  have hcl : cs.length = sz := hl cs (List.mem_of_getElem? hin)
  obtain ⟨ad, hAd, _⟩ := hcell n.toNat 0 cs (cs[0]'(by omega)) hin (List.getElem?_eq_getElem (by omega))
  have hsp := (hs ad hAd).resolve_right fun h => by simp [h] at hin
  refine ⟨.pointer (some ⟨ad.block, ad.off + n.toNat * sz, none⟩), .imm (.iadr bw cs _ (fun j => V n.toNat j) rfl (fun j g hg => ?_) (fun j g hg => ?_) (fun j g hg => ?_)), ?_⟩
  · obtain ⟨ad', h2, h3, h4, _⟩ := hcell n.toNat j cs g hin hg
    obtain rfl : ad' = ad := Option.some.inj (h2.symm.trans hAd)
    exact ⟨h3, by simpa [Nat.add_assoc] using h4⟩
  · obtain ⟨_, _, _, _, h5, _⟩ := hcell n.toNat j cs g hin hg; exact h5
  · obtain ⟨_, _, _, _, _, h6⟩ := hcell n.toNat j cs g hin hg; exact h6
  · simp [execOp, ho, e1, e2, Instr.indexAt, run_asIntOf, run_und ht, hAd, h0, h1, run_sz hi, hsz, add_addr hsp]

/-- An element's address in a row that may be written. -/
theorem os_idxR {t e e' : TypeId} {x y : Operand} {sz id : Nat} {xs : List (List GV)} {k : IntKind} {n : Int} (ho : o.op = .indexAddr t x y) (ht : P.underlying t = some (.slice e)) (hsz : P.cellsOf e = sz) (hpos : sz ≠ 0)
    (hx : ρ x = .row id) (hM : M0 id = .row e' sz xs) (hy : ρ y = .lit (.int k n)) (h0 : 0 ≤ n) (h1 : n < xs.length) : OpS P o ρ nb M0 [id] (.adr id n.toNat 0) [] [] := by
  refine .quiet fun Γ D ι M w ac hS hV hMM => ?_
  obtain ⟨hD, e1⟩ := (hx ▸ hV x (by simp [ho, Op.operands])).row_inv
  have e2 := (hy ▸ hV y (by simp [ho, Op.operands])).lit_inv
  obtain ⟨ti, hi⟩ := cellsOf_info (P := P) (t := e) (by omega)
  have hob := hS.obj id
  rw [hMM id (by simp), hM] at hob
  obtain ⟨⟨hz, _⟩, hn, _, cs, hown, _⟩ := hob
  have hA : ∃ b, (ι id).A = some b := by
    rcases hown.2 with ⟨_, h⟩ | ⟨b, cap, cur, hv, _⟩
    · omega
    · unfold Hd.val at hv
      cases hA : (ι id).A with
      | none => simp [hA] at hv
      | some b' => exact ⟨b', rfl⟩
  obtain ⟨b, hb⟩ := hA
  refine ⟨_, .adr id n.toNat 0 b hD hb, ?_⟩
  have h1' : n < (ι id).n := by omega
  simp [execOp, ho, e1, e2, Hd.val, hb, Instr.indexAt, run_asIntOf, run_und ht, h0, h1', run_sz hi, hsz, add_lit, hz]

/-- An element's address in a part of a row. -/
theorem os_idxS {t e e' : TypeId} {x y : Operand} {sz id lo hi : Nat} {xs : List (List GV)} {k : IntKind} {n : Int} (ho : o.op = .indexAddr t x y) (ht : P.underlying t = some (.slice e)) (hsz : P.cellsOf e = sz) (hpos : sz ≠ 0)
    (hx : ρ x = .sub id lo hi) (hM : M0 id = .row e' sz xs) (hy : ρ y = .lit (.int k n)) (h0 : 0 ≤ n) (h1 : n < (hi - lo : Nat)) : OpS P o ρ nb M0 [id] (.adr id (lo + n.toNat) 0) [] [] := by
  refine .quiet fun Γ D ι M w ac hS hV hMM => ?_
  obtain ⟨hD, hle, hhi, A, c, e1, hc, hA, hs, hb⟩ := (hx ▸ hV x (by simp [ho, Op.operands])).sub_inv
  have e2 := (hy ▸ hV y (by simp [ho, Op.operands])).lit_inv
  obtain ⟨ti, hti⟩ := cellsOf_info (P := P) (t := e) (by omega)
  have hob := hS.obj id
  rw [hMM id (by simp), hM] at hob
  obtain ⟨⟨hz, _⟩, hn, _, cs, hown, _⟩ := hob
  obtain ⟨b, hb, hAb⟩ := hb (by omega)
  refine ⟨_, .adr id (lo + n.toNat) 0 b hD hb, ?_⟩
  simp [execOp, ho, e1, e2, hAb, Instr.indexAt, run_asIntOf, run_und ht, h0, h1, run_sz hti, hsz, add_lit, hz, Nat.add_mul]

/-- An element's address in an array. -/
theorem os_idxA {t e : TypeId} {len : Nat} {x y : Operand} {id i j : Nat} {k : IntKind} {n : Int} (ho : o.op = .indexAddr t x y) (ht : P.underlying t = some (.array len e)) (hpos : P.cellsOf e ≠ 0)
    (hx : ρ x = .adr id i j) (hy : ρ y = .lit (.int k n)) (h0 : 0 ≤ n) (h1 : n < len) : OpS P o ρ nb M0 [] (.adr id i (j + n.toNat * P.cellsOf e)) [] [] := by
  refine .quiet fun Γ D ι M w ac hS hV hMM => ?_
  obtain ⟨hD, b, hb, e1⟩ := (hx ▸ hV x (by simp [ho, Op.operands])).adr_inv
  have e2 := (hy ▸ hV y (by simp [ho, Op.operands])).lit_inv
  obtain ⟨ti, hti⟩ := cellsOf_info (P := P) (t := e) hpos
  refine ⟨_, .adr id i (j + n.toNat * P.cellsOf e) b hD hb, ?_⟩
  simp [execOp, ho, e1, e2, Instr.indexAt, Instr.sureAddr, run_asIntOf, run_und ht, h0, h1, run_sz hti, add_lit, Nat.add_assoc]

theorem os_idxAI {t e : TypeId} {len : Nat} {x y : Operand} {bw : Bool} {cs : List GV} {k : IntKind} {n : Int} (ho : o.op = .indexAddr t x y) (ht : P.underlying t = some (.array len e)) (hpos : P.cellsOf e ≠ 0)
    (hx : ρ x = .iadr bw cs) (hy : ρ y = .lit (.int k n)) (h0 : 0 ≤ n) (h1 : n < len) : OpS P o ρ nb M0 [] (.iadr bw (cs.drop (n.toNat * P.cellsOf e))) [] [] := by
  refine .quiet fun Γ D ι M w ac hS hV hMM => ?_
  obtain ⟨ad, V, e1, hsp, hc⟩ := (hx ▸ hV x (by simp [ho, Op.operands])).iadr_inv
  have e2 := (hy ▸ hV y (by simp [ho, Op.operands])).lit_inv
  obtain ⟨ti, hti⟩ := cellsOf_info (P := P) (t := e) hpos
  refine ⟨.pointer (some ⟨ad.block, ad.off + n.toNat * P.cellsOf e, none⟩), .imm (.iadr bw _ _ (fun j => V (n.toNat * P.cellsOf e + j)) rfl (fun j g hg => ?_) (fun j g hg => ?_) (fun j g hg => ?_)), ?_⟩
  · rw [List.getElem?_drop] at hg
    have := hc _ g hg
    exact ⟨this.1, by simpa [Nat.add_assoc] using this.2.1⟩
  · rw [List.getElem?_drop] at hg; exact (hc _ g hg).2.2.1
  · rw [List.getElem?_drop] at hg; exact (hc _ g hg).2.2.2
  · simp [execOp, ho, e1, e2, Instr.indexAt, Instr.sureAddr, run_asIntOf, run_und ht, h0, h1, run_sz hti, add_addr hsp]

/-! New variables. -/

theorem os_box {t : TypeId} {x : Operand} {cs : List GV} (ho : o.op = .box t x) (hx : gcells (ρ x) = some cs) : OpS P o ρ nb M0 [] (.adr nb 0 0) [] [.cells cs] := by
  refine .make fun Γ D ι M w ac hS hV _ hn => ?_
  obtain ⟨h1, hf, hr⟩ := gcells_sound (hV x (by simp [ho, Op.operands])) hx
  refine ⟨⟨some w.heap.size, 0, 0, 0⟩, .pointer (some ⟨w.heap.size, 0, none⟩), w.alloc (.cells (ac.eval x).cells t), ?_, rfl, rfl, rfl, by simp, fun b hb => heap_alloc_old w _ hb, fun b hb => by simp at hb; omega, fun D' ι' hD hDn hι hιn => ⟨?_, ?_⟩⟩
  · simp [execOp, ho, Instr.box, newVar, newRow]
  · refine ⟨rfl, w.heap.size, _, t, rfl, heap_alloc_new w _, h1, fun i hi => ?_, fun j g hg => ?_⟩
    · have e : (ac.eval x).cells.getD i undef = (ac.eval x).cells.toList[i]'(by simpa using hi) := by simp [hi]
      rw [e]; exact hf _ (List.getElem_mem _)
    · exact (hr j g hg).mono (fun _ h => h) (fun _ h => h) hD hι (fun b hb => heap_alloc_old w _ (hS.lt b (hb.elim .inl fun x => .inr (.inl x))))
  · have := VR.adr (Im := Γ.Im) (Bw := Γ.Bw) (D := D') (ι := ι') (w := w.alloc (.cells (ac.eval x).cells t)) nb 0 0 w.heap.size hDn (by rw [hιn])
    simpa [hιn] using this

def flatAll (v : Value) : Bool := v.cells.toList.all flat

theorem os_alloc {t : TypeId} {z : Value} (ho : o.op = .alloc t) (hz : zeroOf P t = some z) (hf : flatAll z = true) : OpS P o ρ nb M0 [] (.adr nb 0 0) [] [.cells (z.cells.toList.map .lit)] := by
  refine .make fun Γ D ι M w ac hS hV _ hn => ?_
  have hzv : (zeroValue t).run P w = .ok z w := by
    unfold zeroOf at hz
    cases hi : P.info? t with
    | none => simp [hi] at hz
    | some i => simp [hi] at hz; simp [zeroValue, typeInfo, hi, hz]
  refine ⟨⟨some w.heap.size, 0, 0, 0⟩, .pointer (some ⟨w.heap.size, 0, none⟩), w.alloc (.cells z.cells t), ?_, rfl, rfl, rfl, by simp, fun b hb => heap_alloc_old w _ hb, fun b hb => by simp at hb; omega, fun D' ι' hD hDn hι hιn => ⟨?_, ?_⟩⟩
  · simp [execOp, ho, Instr.alloc, hzv, newVar, newRow]
  · refine ⟨rfl, w.heap.size, _, t, rfl, heap_alloc_new w _, by simp, fun i hi => ?_, fun j g hg => ?_⟩
    · have e : z.cells.getD i undef = z.cells.toList[i]'(by simpa using hi) := by simp [hi]
      rw [e]; exact List.all_eq_true.1 hf _ (List.getElem_mem _)
    · simp only [List.getElem?_map, Array.getElem?_toList, Option.map_eq_some_iff] at hg
      obtain ⟨u, hu, rfl⟩ := hg
      have : z.cells.getD j undef = u := by simp [hu]
      rw [this]; exact .litv u
  · have := VR.adr (Im := Γ.Im) (Bw := Γ.Bw) (D := D') (ι := ι') (w := w.alloc (.cells z.cells t)) nb 0 0 w.heap.size hDn (by rw [hιn])
    simpa [hιn] using this

end
end Go.Gh


namespace Go.Gh
section
variable {P : Program} {o : Oper} {ρ : Rho} {nb : Nat} {M0 : Nat → GO}
variable {Im Bw D : Nat → Prop} {ι : Nat → Hd} {w : World}

/-- What is appended: a slice's value, and its cells. -/
structure Src (V : GV → Value → Prop) (w : World) (u : Value) (sz : Nat) (ys : List (List GV)) (A : Option Addr) (c : Nat) (news : List Value) : Prop where
  val : u = .slice A ys.length c
  nil : A = none → ys.length = 0 ∧ c = 0
  cb : c ≤ maxLen
  len : news.length = ys.length * sz
  esz : ∀ y, y ∈ ys → y.length = sz
  cell : ∀ (j : Nat) v, news[j]? = some v → ∃ a, A = some a ∧ w.cell? (a.add j) = some v
  flt : ∀ v, v ∈ news → flat v = true
  rel : ∀ (i j : Nat) y g, ys[i]? = some y → y[j]? = some g → V g (news.getD (i * sz + j) undef)

theorem grid_lt {i j n sz : Nat} (hi : i < n) (hj : j < sz) : i * sz + j < n * sz := by
  calc i * sz + j < i * sz + sz := by omega
    _ = (i + 1) * sz := by rw [Nat.add_mul, Nat.one_mul]
    _ ≤ n * sz := Nat.mul_le_mul_right _ hi

theorem src_sl {bw : Bool} {sz : Nat} {xs ex : List (List GV)} {u : Value} (hsz : 0 < sz) (h : VR Im Bw D ι w (.sl bw sz xs ex) u) : ∃ A c news, Src (VP Im w) w u sz xs A c news := by
  obtain ⟨A, c, V, rfl, hc, hA, hs, hl, hcell⟩ := h.sl_inv
  have hg : ∀ k, k < xs.length * sz → ((List.range (xs.length * sz)).map fun k => V (k / sz) (k % sz)).getD k undef = V (k / sz) (k % sz) := fun k hk => by simp [hk]
  have hk : ∀ k, k < xs.length * sz → ∃ x g, (xs ++ ex)[k / sz]? = some x ∧ x[k % sz]? = some g := fun k hk => by
    have h1 : k / sz < xs.length := Nat.div_lt_of_lt_mul (by rw [Nat.mul_comm]; exact hk)
    have h2 : k / sz < (xs ++ ex).length := by simp; omega
    have h3 : ((xs ++ ex)[k / sz]).length = sz := hl _ (List.getElem_mem h2)
    exact ⟨_, ((xs ++ ex)[k / sz])[k % sz]'(by rw [h3]; exact Nat.mod_lt _ hsz), List.getElem?_eq_getElem h2, List.getElem?_eq_getElem _⟩
  refine ⟨A, c, (List.range (xs.length * sz)).map fun k => V (k / sz) (k % sz), rfl, fun h => ⟨by have := hA h; omega, hA h⟩, hc.2, by simp, fun y hy => hl y (List.mem_append_left _ hy), fun j v hj => ?_, fun v hv => ?_, fun i j y g hy hj => ?_⟩
  · simp only [List.getElem?_map, Option.map_eq_some_iff] at hj
    obtain ⟨k, hk1, rfl⟩ := hj
    have hjk : j < xs.length * sz ∧ k = j := by
      rw [List.getElem?_eq_some_iff] at hk1
      obtain ⟨h1, h2⟩ := hk1
      simp at h1 h2
      exact ⟨h1, h2.symm⟩
    obtain ⟨hj, rfl⟩ := hjk
    obtain ⟨x, g, hx, hgx⟩ := hk k hj
    obtain ⟨ad, h1, _, h2, _⟩ := hcell _ _ x g hx hgx
    refine ⟨ad, h1, ?_⟩
    rw [add_addr ((hs ad h1).resolve_right fun h => by simp [h] at hx)]
    rwa [Nat.div_add_mod'] at h2
  · simp only [List.mem_map, List.mem_range] at hv
    obtain ⟨k, hk1, rfl⟩ := hv
    obtain ⟨x, g, hx, hgx⟩ := hk k hk1
    obtain ⟨_, _, _, _, h3, _⟩ := hcell _ _ x g hx hgx
    exact h3
  · have hi : i < xs.length := (List.getElem?_eq_some_iff.1 hy).1
    have hx : (xs ++ ex)[i]? = some y := by rw [List.getElem?_append_left hi]; exact hy
    have hyl : y.length = sz := hl y (List.mem_of_getElem? hx)
    have hjl : j < sz := by rw [← hyl]; exact (List.getElem?_eq_some_iff.1 hj).1
    obtain ⟨_, _, _, _, _, h4⟩ := hcell i j y g hx hj
    rw [hg _ (grid_lt hi hjl)]
    have e1 : (i * sz + j) / sz = i := by rw [Nat.mul_comm, Nat.mul_add_div hsz, Nat.div_eq_of_lt hjl, Nat.add_zero]
    have e2 : (i * sz + j) % sz = j := by rw [Nat.mul_comm, Nat.mul_add_mod, Nat.mod_eq_of_lt hjl]
    rw [e1, e2]
    exact h4

theorem src_nil (sz : Nat) : Src (VP Im w) w (.slice none 0 0) sz [] none 0 [] :=
  ⟨rfl, fun _ => ⟨rfl, rfl⟩, Nat.zero_le _, by simp, fun _ h => by simp at h, fun j v h => by simp at h, fun v h => by simp at h, fun i j y g h => by simp at h⟩

theorem row_cases {V Vp : GV → Value → Prop} {hd : Hd} {e sz : Nat} {xs : List (List GV)} (h : OR V Vp w hd (.row e sz xs)) :
    hd.sz = sz ∧ hd.n = xs.length ∧ (∀ x, x ∈ xs → x.length = sz) ∧ ∃ cs : List Value, w.ownsRow 0 e sz hd.val xs.length cs ∧ (∀ v, v ∈ cs → flat v = true) ∧
      (∀ (i j : Nat) x g, xs[i]? = some x → x[j]? = some g → Vp g (cs.getD (i * sz + j) undef)) ∧
      ((hd.A = none ∧ hd.n = 0 ∧ hd.c = 0) ∨ ∃ b, hd.A = some b ∧ (hd.n ≤ hd.c ∧ hd.c ≤ maxLen) ∧ ∀ j u, cs[j]? = some u → w.cell? ⟨b, j, none⟩ = some u) := by
  obtain ⟨⟨h0, _⟩, h1, hz, cs, h2, hf, h3⟩ := h
  refine ⟨h0, h1, hz, cs, h2, hf, h3, ?_⟩
  rcases h2.2 with ⟨hv, hn⟩ | ⟨b, cap, cur, hv, _, hg, hnc, hcm, _⟩
  · left
    unfold Hd.val at hv
    cases hA : hd.A with
    | none => simp [hA] at hv; exact ⟨rfl, hv.1, hv.2⟩
    | some b => simp [hA] at hv
  · right
    unfold Hd.val at hv
    cases hA : hd.A with
    | none => simp [hA] at hv
    | some b' =>
      simp [hA] at hv
      obtain ⟨rfl, hn', hc⟩ := hv
      refine ⟨b', rfl, by omega, fun j u hu => ?_⟩
      have := h2.cells (g := b') (by simp [Hd.val, hA, Value.ownBlock]) j u hu
      rwa [add_lit, Nat.zero_add] at this

theorem src_row {id e sz : Nat} {xs : List (List GV)} {u : Value} (h : VR Im Bw D ι w (.row id) u) (ho : OR (VR Im Bw D ι w) (VP Im w) w (ι id) (.row e sz xs)) : ∃ A c news, Src (VP Im w) w u sz xs A c news := by
  obtain ⟨hD, rfl⟩ := h.row_inv
  obtain ⟨h0, h1, hz, cs, h2, hf, h3, h4⟩ := row_cases ho
  refine ⟨(ι id).A.map fun b => ⟨b, 0, none⟩, (ι id).c, cs, by rw [← h1]; rfl, fun hn => ?_, by rcases h4 with ⟨_, _, h⟩ | ⟨_, _, h, _⟩ <;> omega, h2.1, hz, fun j v hj => ?_, hf, h3⟩
  · rcases h4 with ⟨hA, h5, h6⟩ | ⟨b, hA, _⟩
    · exact ⟨by omega, h6⟩
    · simp [hA] at hn
  · rcases h4 with ⟨hA, h5, h6⟩ | ⟨b, hA, _, h5⟩
    · have := h2.1
      have : cs = [] := List.eq_nil_of_length_eq_zero (by rw [this, ← h1, h5]; simp)
      simp [this] at hj
    · exact ⟨⟨b, 0, none⟩, by simp [hA], by rw [add_lit, Nat.zero_add]; exact h5 j v hj⟩

theorem src_sub {id e sz lo hi : Nat} {xs : List (List GV)} {u : Value} (h : VR Im Bw D ι w (.sub id lo hi) u) (ho : OR (VR Im Bw D ι w) (VP Im w) w (ι id) (.row e sz xs)) :
    ∃ A c news, Src (VP Im w) w u sz ((xs.drop lo).take (hi - lo)) A c news := by
  obtain ⟨hD, hle, hhi, A, c, rfl, hc, hA, hs, hb⟩ := h.sub_inv
  obtain ⟨h0, h1, hz, cs, h2, hf, h3, h4⟩ := row_cases ho
  have hlen : ((xs.drop lo).take (hi - lo)).length = hi - lo := by simp; omega
  refine ⟨A, c, (cs.drop (lo * sz)).take ((hi - lo) * sz), by rw [hlen], fun hn => ?_, hc.2, ?_, fun y hy => hz y (List.mem_of_mem_drop (List.mem_of_mem_take hy)), fun j v hj => ?_, fun v hv => hf v (List.mem_of_mem_drop (List.mem_of_mem_take hv)), fun i j y g hy hj => ?_⟩
  · exact ⟨by rw [hlen]; have := hA hn; omega, hA hn⟩
  · rw [hlen, List.length_take, List.length_drop, h2.1]
    have : lo * sz + (hi - lo) * sz ≤ xs.length * sz := by rw [← Nat.add_mul]; exact Nat.mul_le_mul_right _ (by omega)
    omega
  · rw [List.getElem?_take] at hj
    split at hj
    · rename_i hlt
      rw [List.getElem?_drop] at hj
      have hpos : lo < hi := by
        rcases Nat.lt_or_ge lo hi with h | h
        · exact h
        · have : hi - lo = 0 := by omega
          rw [this] at hlt; simp at hlt
      obtain ⟨b, hb1, hb2⟩ := hb hpos
      refine ⟨_, hb2, ?_⟩
      rcases h4 with ⟨hA', _⟩ | ⟨b', hA', _, h5⟩
      · rw [hA'] at hb1; cases hb1
      · obtain rfl : b' = b := Option.some.inj (hA'.symm.trans hb1)
        rw [add_lit, h0]
        exact h5 _ v hj
    · cases hj
  · rw [List.getElem?_take] at hy
    split at hy
    · rename_i hlt
      rw [List.getElem?_drop] at hy
      have := h3 _ _ y g hy hj
      have hyl := hz y (List.mem_of_getElem? hy)
      have hjl : j < sz := by rw [← hyl]; exact (List.getElem?_eq_some_iff.1 hj).1
      have e : ((cs.drop (lo * sz)).take ((hi - lo) * sz)).getD (i * sz + j) undef = cs.getD ((lo + i) * sz + j) undef := by
        simp only [List.getD_eq_getElem?_getD, List.getElem?_take, List.getElem?_drop]
        rw [if_pos (grid_lt hlt hjl)]
        congr 2
        rw [Nat.add_mul]; omega
      rw [e]; exact this
    · cases hy

theorem src_zl {sz : Nat} {u : Value} (h : VR Im Bw D ι w .zl u) : ∃ A c news, Src (VP Im w) w u sz [] A c news := by
  obtain ⟨A, rfl⟩ := h.zl_inv
  exact ⟨A, 0, [], rfl, fun _ => ⟨rfl, rfl⟩, Nat.zero_le _, by simp, fun _ h => by simp at h, fun j v h => by simp at h, fun v h => by simp at h, fun i j y g h => by simp at h⟩

theorem zeroCells_flat {z : Value} (h : flatAll z = true) {n : Nat} {v : Value} (hv : v ∈ (Builtin.zeroCells z.cells n).toList) : flat v = true := by
  unfold Builtin.zeroCells at hv
  simp only [Array.toList_map, Array.toList_range, List.mem_map, List.mem_range] at hv
  obtain ⟨i, hi, rfl⟩ := hv
  have hp : 0 < z.cells.size := by
    rcases Nat.eq_zero_or_pos z.cells.size with e | e
    · rw [e] at hi; simp at hi
    · exact e
  have hlt : i % z.cells.size < z.cells.size := Nat.mod_lt _ hp
  rw [getElem!_pos z.cells _ hlt]
  exact List.all_eq_true.1 h _ (by simp)

/-- 'append', whatever is appended, onto a row of one's own. -/
theorem run_app {t ty e : TypeId} {i : TypeInfo} {z : Value} {size : Nat} (ht : P.underlying t = some (.slice e)) (hi : P.info? e = some i) (hz : i.zero = some z)
    (hsize : i.size = size) (hzs : z.cells.size = size) (hsz : 0 < size) {v : Value} {n : Nat} {xs : List Value} (hown : w.ownsRow 0 e size v n xs)
    {A : Option Addr} {m c : Nat} {news : List Value} (hA : A = none → m = 0 ∧ c = 0) (hl : news.length = m * size) (hnews : ∀ j u, news[j]? = some u → ∃ a, A = some a ∧ w.cell? (a.add j) = some u)
    (h1 : ∀ u, u ∈ news → flat u = true) (hzf : flatAll z = true) (hsp : spf w v.ownBlock) (h63 : n + m ≤ maxLen) (hbytes : (n + m) * i.bytes ≤ 140737488355328) :
    ∃ v' w', (Builtin.append_ #[t, t] ty #[v, .slice A m c]).run P w = .ok v' w' ∧ w'.ownsRow 0 e size v' (n + m) (xs ++ news) ∧ w.grownBy w' v.ownBlock ∧
      (∀ b, v'.ownBlock = some b → w.heap.size ≤ b ∨ v.ownBlock = some b) ∧ w.heap.size ≤ w'.heap.size ∧ ((∀ u, u ∈ xs → flat u = true) → spf w' v'.ownBlock) := by
  cases A with
  | none =>
    obtain ⟨rfl, rfl⟩ := hA rfl
    have hn : news = [] := List.eq_nil_of_length_eq_zero (by simpa using hl)
    subst hn
    refine ⟨v, w, run_append_owned_none w 0 t ty e i size ht hi v n xs hown, by simpa using hown, ⟨rfl, rfl, rfl, Nat.le_refl _, fun _ _ _ => rfl⟩, fun b hb => .inr hb, Nat.le_refl _, fun _ => hsp⟩
  | some a =>
    have hnews' : ∀ j u, news[j]? = some u → w.cell? (a.add j) = some u := fun j u hu => by
      obtain ⟨a', ha, h⟩ := hnews j u hu
      cases ha; exact h
    have h1' : ∀ u ∈ news, u.oneCell' = true := fun u hu => flat_oneCell (h1 u hu)
    subst hsize
    have hsmall : n + m ≤ 9223372036854775807 := by simp only [maxLen] at h63; omega
    have hlen : (xs ++ news).length = (n + m) * i.size := by rw [List.length_append, hown.1, hl, Nat.add_mul]
    have grown : ∀ (old : Nat), (w.drew.alloc (.cells (xs.toArray ++ news.toArray ++ Builtin.zeroCells z.cells (grownCap w (n + m) old e - (n + m))) e)).ownsRow 0 e i.size
          (.slice (some ⟨w.heap.size, 0, none⟩) (n + m) (grownCap w (n + m) old e)) (n + m) (xs ++ news) := by
      intro old
      have hge := grownCap_ge w (n + m) old e
      have hcm := grownCap_le_maxLen w (n + m) old e h63
      refine ⟨hlen, .inr ⟨w.heap.size, _, _, rfl, Nat.zero_le _, heap_alloc_new w.drew _, hge, hcm, ?_, ?_⟩⟩
      · simp only [Array.size_append, List.size_toArray, size_zeroCells, hzs, hown.1, hl, ← Nat.add_mul]
        congr 1
        omega
      · simp only [Array.toList_append]
        rw [← hlen]
        exact List.take_left
    have grownB : ∀ (X : Array Value) (row : Option Nat), w.grownBy (w.drew.alloc (.cells X e)) row := fun X row =>
      ⟨rfl, rfl, rfl, by simp, fun k hk _ => heap_alloc_old w.drew _ hk⟩
    have grownF : ∀ (old : Nat), (∀ u, u ∈ xs → flat u = true) → spf (w.drew.alloc (.cells (xs.toArray ++ news.toArray ++ Builtin.zeroCells z.cells (grownCap w (n + m) old e - (n + m))) e)) (some w.heap.size) := by
      intro old hxf b arr t hb hg v hv
      cases hb
      have hg2 := heap_alloc_new w.drew (.cells (xs.toArray ++ news.toArray ++ Builtin.zeroCells z.cells (grownCap w (n + m) old e - (n + m))) e)
      have hg3 := hg2.symm.trans hg
      cases hg3
      simp only [Array.toList_append, List.mem_append] at hv
      rcases hv with (hv | hv) | hv
      · exact hxf v hv
      · exact h1 v hv
      · exact zeroCells_flat hzf hv
    have own := hown.2
    rcases own with ⟨hv, hn⟩ | ⟨g, cap, cur, hv, hbg, hg, hnc, hcm, hcs, htake⟩
    · subst hv; subst hn
      have hx : xs = [] := List.eq_nil_of_length_eq_zero (by simpa using hown.1)
      subst hx
      by_cases hm : m = 0
      · subst hm
        have hn : news = [] := List.eq_nil_of_length_eq_zero (by simpa using hl)
        subst hn
        refine ⟨.slice none 0 0, w, ?_, World.ownsRow_nil w 0 e i.size, ⟨rfl, rfl, rfl, Nat.le_refl _, fun _ _ _ => rfl⟩, fun b hb => by simp [Value.ownBlock] at hb, Nat.le_refl _, fun _ => hsp⟩
        simp [Builtin.append_, run_underlying ht, sizeOf, typeInfo, hi, Builtin.lenOf, Builtin.firstCells, loadCells, loadCellsFrom]
      · have hr := run_append_nil (P := P) w t ty e i z ht hi hz a m c news hl hnews' (by omega) (by omega) (by have hb := hbytes; simp only [Nat.zero_add] at hb; omega)
        have hgr := grown 0
        have hgf := grownF 0
        simp only [Nat.zero_add, List.nil_append, Array.empty_append] at hgr hgf ⊢
        exact ⟨_, _, hr, hgr, grownB _ _, fun b hb => .inl (by simp [Value.ownBlock] at hb; omega), by simp, hgf⟩
    · subst hv
      by_cases hroom : n + m ≤ cap
      · have hfit : n * i.size + news.length ≤ cur.size := by rw [hl, hcs, ← Nat.add_mul]; exact Nat.mul_le_mul_right _ hroom
        have hr := run_append_room (P := P) w t ty e i ht hi g n cap cur hg a m c news hl hnews' h1' hroom hfit
        refine ⟨_, _, hr, ⟨hlen, .inr ⟨g, cap, _, rfl, hbg, setRow_heap w g cur _ e _ hg, hroom, hcm, ?_, ?_⟩⟩, ⟨rfl, rfl, rfl, by simp [World.setRow], fun k _ hk => setRow_other w g k _ (fun e => hk (by simp [Value.ownBlock, e]))⟩, fun b hb => .inr hb, by simp [World.setRow], fun _ b arr t hb hg2 u hu => ?_⟩
        · simp only [List.size_toArray, List.length_append, List.length_take, List.length_drop, Array.length_toList]
          omega
        · rw [htake, ← hlen]
          exact List.take_left
        · obtain rfl : g = b := by simpa [Value.ownBlock] using hb
          have hgw := setRow_heap w g cur (cur.toList.take (n * i.size) ++ news ++ cur.toList.drop (n * i.size + news.length)).toArray e (0, 0) hg
          have hg3 := hgw.symm.trans hg2
          cases hg3
          simp only [List.mem_append] at hu
          have hsp' := hsp g cur e (by simp [Value.ownBlock]) hg u
          rcases hu with (hu | hu) | hu
          · exact hsp' (List.mem_of_mem_take hu)
          · exact h1 u hu
          · exact hsp' (List.mem_of_mem_drop hu)
      · have holds : ∀ j u, xs[j]? = some u → w.cell? ((⟨g, 0, none⟩ : Addr).add j) = some u := hown.cells (g := g) rfl
        have hr := run_append_grow (P := P) w t ty e i z ht hi hz ⟨g, 0, none⟩ n cap xs hown.1 holds a m c news hl hnews' (by omega) (by omega) (growslice_fits (by omega) hbytes)
        exact ⟨_, _, hr, grown cap, grownB _ _, fun b hb => .inl (by simp [Value.ownBlock] at hb; omega), by simp, grownF cap⟩

end
end Go.Gh


namespace Go.Gh
section
variable {P : Program} {o : Oper} {ρ : Rho} {nb : Nat} {M0 : Nat → GO}
variable {Im Bw D : Nat → Prop} {ι : Nat → Hd} {w : World}

theorem run_call_builtin {a : Act} {b : Builtin} {xs : Array Operand} {ts : Array TypeId} (ho : o.op = .call { callee := .builtin b, args := xs, argTypes := ts }) :
    ∃ cs, (execOp a.eval o).run P w = (builtin b ts o.type cs (xs.map a.eval)).run P w := by
  refine ⟨xs.map fun | .const _ => true | _ => false, ?_⟩
  simp only [execOp, ho, resolve, invoke, Sem.run_bind, Sem.run_pure, Result.andThen_ok]
  rfl

/-- The value of a row. -/
def hdOf (sz : Nat) : Value → Hd
  | .slice A n c => ⟨A.map (·.block), sz, n, c⟩
  | _ => ⟨none, sz, 0, 0⟩

theorem hdOf_val {e sz : Nat} {v : Value} {n : Nat} {xs : List Value} (h : w.ownsRow 0 e sz v n xs) : (hdOf sz v).val = v ∧ (hdOf sz v).sz = sz ∧ (hdOf sz v).n = n ∧
    (∀ b, (hdOf sz v).A = some b ↔ v.ownBlock = some b) := by
  rcases h.2 with ⟨rfl, rfl⟩ | ⟨g, cap, cur, rfl, _⟩
  · exact ⟨rfl, rfl, rfl, fun b => by simp [hdOf, Value.ownBlock]⟩
  · exact ⟨rfl, rfl, rfl, fun b => by simp [hdOf, Value.ownBlock]⟩

/-- A new row out of an old one (which is let go), or out of nothing. -/
theorem app_core {t e sz : Nat} {i : TypeInfo} {z : Value} (ht : P.underlying t = some (.slice e)) (hi : P.info? e = some i) (hz : i.zero = some z) (hsize : i.size = sz) (hzs : z.cells.size = sz) (hpos : 0 < sz) (hzf : flatAll z = true)
    {x y : Operand} {xs ys : List (List GV)} {ids : List Nat} {ups : List (Nat × GO)}
    (ho : o.op = .call { callee := .builtin .append, args := #[x, y], argTypes := #[t, t] })
    (h63 : xs.length + ys.length ≤ maxLen) (hbytes : (xs.length + ys.length) * i.bytes ≤ 140737488355328)
    (hbase : (ρ x = .lit (.slice none 0 0) ∧ xs = [] ∧ ups = []) ∨ ∃ id, ρ x = .row id ∧ M0 id = .row e sz xs ∧ ups = [(id, .dead)] ∧ id ∈ ids)
    (hsrc : ∀ (Γ : Ctx) (D : Nat → Prop) (ι : Nat → Hd) (M : Nat → GO) (w : World) (u : Value), SR Γ D ι M w → VR Γ.Im Γ.Bw D ι w (ρ y) u → (∀ id, id ∈ ids → M id = M0 id) →
      ∃ A c news, Src (VP Γ.Im w) w u sz ys A c news) :
    OpS P o ρ nb M0 ids (.row nb) ups [.row e sz (xs ++ ys)] := by
  intro Γ D ι M w ac K Q hS hV hM hf hk
  have hn : ¬ D nb := hf nb (Nat.le_refl _) (by simp)
  obtain ⟨A, c, news, hs⟩ := hsrc Γ D ι M w _ hS (hV y (by simp [ho, Op.operands, Call.operands])) hM
  have hb : ∃ (v : Value) (cs : List Value), ac.eval x = v ∧ w.ownsRow 0 e sz v xs.length cs ∧ (∀ u, u ∈ cs → flat u = true) ∧ (∀ x, x ∈ xs → x.length = sz) ∧
      (∀ (i j : Nat) x g, xs[i]? = some x → x[j]? = some g → VP Γ.Im w g (cs.getD (i * sz + j) undef)) ∧
      (∀ b, v.ownBlock = some b → ∃ id, M id ≠ .dead ∧ (ι id).A = some b ∧ ups = [(id, .dead)]) ∧ spf w v.ownBlock := by
    rcases hbase with ⟨h1, h2, _⟩ | ⟨id, h1, h2, h3, h4⟩
    · have := (h1 ▸ hV x (by simp [ho, Op.operands, Call.operands])).lit_inv
      refine ⟨.slice none 0 0, [], this, by subst h2; exact World.ownsRow_nil w 0 e sz, fun _ h => by simp at h, fun _ h => by subst h2; simp at h, fun i j x g h => by subst h2; simp at h, fun b hb => by simp [Value.ownBlock] at hb, fun b arr t hb => by simp [Value.ownBlock] at hb⟩
    · obtain ⟨hD, h5⟩ := (h1 ▸ hV x (by simp [ho, Op.operands, Call.operands])).row_inv
      have hMi := hM id h4
      have hob := hS.obj id
      rw [hMi, h2] at hob
      have hspf := hob.1.2
      obtain ⟨h6, h7, h8, cs, h9, h10, h11, _⟩ := row_cases hob
      have hob2 : (ι id).val.ownBlock = (ι id).A := by
        unfold Hd.val
        cases (ι id).A <;> simp [Value.ownBlock]
      refine ⟨_, cs, h5, h9, h10, h8, h11, fun b hb => ⟨id, by rw [hMi, h2]; simp, ?_, h3⟩, by rw [hob2]; exact hspf⟩
      unfold Hd.val at hb
      cases hA : (ι id).A with
      | none => simp [hA, Value.ownBlock] at hb
      | some b' => simp [hA, Value.ownBlock] at hb; rw [hb]
  obtain ⟨v, cs, hev, hown, hcf, hxl, hrel, hblk, hspv⟩ := hb
  obtain ⟨v', w', hr, hown', hg, hnew, hsz, hspn⟩ := run_app (P := P) (w := w) (ty := o.type) ht hi hz hsize hzs hpos hown (m := ys.length) (c := c) (news := news) hs.nil hs.len hs.cell hs.flt hzf hspv h63 hbytes
  obtain ⟨hv1, hv2, hv3, hv4⟩ := hdOf_val hown'
  have hD : (fun i => D i ∨ (nb ≤ i ∧ i < nb + [GO.row e sz (xs ++ ys)].length)) = fun i => D i ∨ i = nb := by
    funext i; simp only [List.length_singleton, eq_iff_iff]
    constructor <;> rintro (h | h) <;> first | exact .inl h | (right; omega)
  have hk' := hk Γ.Im (fun i => if i = nb then hdOf sz v' else ι i) v' w'
    ⟨hg.os, hg.tape, hg.output, hsz, fun b hb => hg.block b (hS.lt b hb) fun e => by
      obtain ⟨id, h1, h2, _⟩ := hblk b e.symm
      exact hS.own id b h1 h2 hb⟩ (fun _ h => h)
    (fun i hi => by rw [if_neg]; rintro rfl; exact hn hi)
  rw [hD] at hk'
  have hSR : SR Γ (fun i => D i ∨ i = nb) (fun i => if i = nb then hdOf sz v' else ι i) (updF M ups nb [GO.row e sz (xs ++ ys)]) w' := by
    have hVRm : ∀ g u, VP Γ.Im w g u → VP Γ.Im w' g u := fun g u h =>
      h.mono (fun _ h => h) fun b hb =>
        have hh : Γ.has b := .inl hb
        hg.block b (hS.lt b hh) fun e => by
          obtain ⟨id, h1, h2, _⟩ := hblk b e.symm
          exact hS.own id b h1 h2 hh
    refine hS.new hn (fun i => Iff.rfl) (fun i hi => by rw [if_neg]; rintro rfl; exact hn hi) (o := GO.row e sz (xs ++ ys)) ?_ ?_ hsz ?_ ?_ ?_
    · intro i hi
      have : updF M ups nb [GO.row e sz (xs ++ ys)] i = ((ups.find? (·.1 == i)).map (·.2)).getD (M i) := by
        unfold updF
        rw [if_neg (by simp; omega)]
      rw [this]
      rcases hbase with ⟨_, _, rfl⟩ | ⟨id, _, _, rfl, _⟩
      · right; rfl
      · by_cases e : id = i
        · subst e; left; simp
        · right
          have : (id == i) = false := by simpa using e
          simp [this]
    · unfold updF
      rw [if_pos (by simp)]
      simp
    · intro b hb _ hne
      refine hg.block b hb fun e => ?_
      obtain ⟨id, h1, h2, h3⟩ := hblk b e.symm
      refine hne id h1 ?_ h2
      unfold updF
      rw [if_neg (fun h4 => ?_), h3]
      · simp
      · have h5 : id = nb := by have := h4.2; simp at this; omega
        subst h5; exact hn (hS.liv _ h1)
    · intro b hb
      simp only [if_true] at hb
      rcases hnew b ((hv4 b).1 hb) with h | h
      · exact .inl h
      · obtain ⟨id, h1, h2, h3⟩ := hblk b h
        refine .inr ⟨id, h1, ?_, h2⟩
        unfold updF
        rw [if_neg (fun h4 => ?_), h3]
        · simp
        · have h5 : id = nb := by have := h4.2; simp at this; omega
          subst h5; exact hn (hS.liv _ h1)
    · simp only [if_true]
      have hsp' : spf w' (hdOf sz v').A := fun b arr t hb hg2 => hspn hcf b arr t ((hv4 b).1 hb) hg2
      refine ⟨⟨hv2, hsp'⟩, by rw [hv3]; simp, fun x hx => ?_, cs ++ news, ?_, fun u hu => ?_, fun i j x g hx hj => ?_⟩
      · rcases List.mem_append.1 hx with h | h
        · exact hxl x h
        · exact hs.esz x h
      · rw [hv1, List.length_append]; exact hown'
      · rcases List.mem_append.1 hu with h | h
        · exact hcf u h
        · exact hs.flt u h
      · rw [List.getElem?_append] at hx
        split at hx
        · rename_i hi'
          have hxl' := hxl x (List.mem_of_getElem? hx)
          have hjl : j < sz := by rw [← hxl']; exact (List.getElem?_eq_some_iff.1 hj).1
          have e : (cs ++ news).getD (i * sz + j) undef = cs.getD (i * sz + j) undef := by
            simp only [List.getD_eq_getElem?_getD]
            rw [List.getElem?_append_left (by rw [hown.1]; exact grid_lt hi' hjl)]
          rw [e]
          exact hVRm _ _ (hrel i j x g hx hj)
        · rename_i hi'
          have hxl' := hs.esz x (List.mem_of_getElem? hx)
          have hge : xs.length * sz ≤ i * sz := Nat.mul_le_mul_right _ (by omega)
          have e : (cs ++ news).getD (i * sz + j) undef = news.getD ((i - xs.length) * sz + j) undef := by
            simp only [List.getD_eq_getElem?_getD]
            rw [List.getElem?_append_right (by rw [hown.1]; omega), hown.1]
            congr 2
            rw [Nat.sub_mul]; omega
          rw [e]
          exact hVRm _ _ (hs.rel _ j x g hx hj)
  obtain ⟨cc, hrun⟩ := run_call_builtin (P := P) (w := w) (a := ac) ho
  unfold Oper.wp
  rw [hrun]
  simp only [List.map_toArray, List.map_cons, List.map_nil, hev, hs.val, builtin, Sem.run_bind, hr, Result.andThen_ok, Sem.run_pure]
  refine hk' hSR ?_
  have := VR.row (Im := Γ.Im) (Bw := Γ.Bw) (D := fun i => D i ∨ i = nb) (ι := fun i => if i = nb then hdOf sz v' else ι i) (w := w') nb (.inr rfl)
  simp only [if_true] at this
  have h2 : VR Γ.Im Γ.Bw (fun i => D i ∨ i = nb) (fun i => if i = nb then hdOf sz v' else ι i) w' (.row nb) (hdOf sz v').val := this
  rw [hv1] at h2
  exact h2

end
end Go.Gh
