import Derived.WalkKit
import Derived.OrdersHeld
import Derived.Deep.Draws

/-! Ghost values: what a Go value is, told without memory: rows that nobody writes any more carry what is in them;
what may still be written stands in a list of objects, by number. -/

namespace Go.Gh

inductive GV where
  | any
  | lit (v : Value)
  | agg (cs : List GV)
  | tup (vs : List GV)
  | sl (bw : Bool) (sz : Nat) (xs ex : List (List GV))
  | row (id : Nat)
  | sub (id lo hi : Nat)
  | win (id lo hi : Nat)
  | zl
  | adr (id i j : Nat)
  | iadr (bw : Bool) (cs : List GV)
  | clo (f : Nat) (caps : List GV)
  | ige (n : Int)
  deriving Inhabited

inductive GO where
  | dead
  | cells (cs : List GV)
  | row (e sz : Nat) (xs : List (List GV))
  deriving Inhabited

/-- Where an object lies. -/
structure Hd where
  A : Option Nat
  sz : Nat
  n : Nat
  c : Nat

def Hd.val (h : Hd) : Value := .slice (h.A.map fun b => ⟨b, 0, none⟩) h.n h.c

/-- One cell's value. -/
def flat : Value → Bool
  | .agg _ | .tuple _ => false
  | _ => true

theorem flat_oneCell {v : Value} (h : flat v = true) : v.oneCell' = true := by
  cases v <;> simp_all [flat, Value.oneCell']

/-- What has no part in what may be written, nor in what is lent. -/
inductive VP (Im : Nat → Prop) (w : World) : GV → Value → Prop
  | any (v : Value) : VP Im w .any v
  | lit (v : Value) : VP Im w (.lit v) v
  | zl (A : Option Addr) : VP Im w .zl (.slice A 0 0)
  | ige (n m : Int) (h : n ≤ m) (h2 : m ≤ 9223372036854775807) : VP Im w (.ige n) (.int .i64 m)
  | agg (cs : List GV) (vs : Array Value) (hn : vs.size = cs.length) (hf : ∀ (i : Nat), i < vs.size → flat (vs.getD i undef) = true)
      (h : ∀ (i : Nat) g, cs[i]? = some g → VP Im w g (vs.getD i undef)) : VP Im w (.agg cs) (.agg vs)
  | tup (cs : List GV) (vs : Array Value) (hn : vs.size = cs.length)
      (h : ∀ (i : Nat) g, cs[i]? = some g → VP Im w g (vs.getD i undef)) : VP Im w (.tup cs) (.tuple vs)
  | sl (sz : Nat) (xs ex : List (List GV)) (A : Option Addr) (c : Nat) (V : Nat → Nat → Value)
      (hc : xs.length + ex.length ≤ c ∧ c ≤ maxLen) (hA : A = none → c = 0) (hs : ∀ ad, A = some ad → ad.spot = none ∨ xs ++ ex = [])
      (hsz : ∀ x, x ∈ xs ++ ex → x.length = sz)
      (hcell : ∀ (i j : Nat) x g, (xs ++ ex)[i]? = some x → x[j]? = some g →
        ∃ ad, A = some ad ∧ Im ad.block ∧ w.cell? ⟨ad.block, ad.off + (i * sz + j), none⟩ = some (V i j))
      (hf : ∀ (i j : Nat) x g, (xs ++ ex)[i]? = some x → x[j]? = some g → flat (V i j) = true)
      (hv : ∀ (i j : Nat) x g, (xs ++ ex)[i]? = some x → x[j]? = some g → VP Im w g (V i j)) :
      VP Im w (.sl false sz xs ex) (.slice A xs.length c)
  | iadr (cs : List GV) (ad : Addr) (V : Nat → Value) (hs : ad.spot = none)
      (hcell : ∀ (j : Nat) g, cs[j]? = some g → Im ad.block ∧ w.cell? ⟨ad.block, ad.off + j, none⟩ = some (V j))
      (hf : ∀ (j : Nat) g, cs[j]? = some g → flat (V j) = true)
      (hv : ∀ (j : Nat) g, cs[j]? = some g → VP Im w g (V j)) :
      VP Im w (.iadr false cs) (.pointer (some ad))

theorem VP.mono {Im Im' : Nat → Prop} {w w' : World} (hI : ∀ b, Im b → Im' b) (hw : ∀ b, Im b → w'.heap[b]? = w.heap[b]?) {g : GV} {v : Value} (h : VP Im w g v) : VP Im' w' g v := by
  induction h with
  | any v => exact .any v
  | lit v => exact .lit v
  | zl A => exact .zl A
  | ige n m h h2 => exact .ige n m h h2
  | agg cs vs hn hf _ ih => exact .agg cs vs hn hf ih
  | tup cs vs hn _ ih => exact .tup cs vs hn ih
  | sl sz xs ex A c V hc hA hs hsz hcell hf _ ih =>
    refine .sl sz xs ex A c V hc hA hs hsz (fun i j x g hx hg => ?_) hf ih
    obtain ⟨ad, e, hb, hcl⟩ := hcell i j x g hx hg
    exact ⟨ad, e, hI _ hb, by rw [← hcl]; exact World.cell?_of_block (hw _ hb)⟩
  | iadr cs ad V hs hcell hf _ ih =>
    refine .iadr cs ad V hs (fun j g hg => ?_) hf ih
    obtain ⟨hb, hcl⟩ := hcell j g hg
    exact ⟨hI _ hb, by rw [← hcl]; exact World.cell?_of_block (hw _ hb)⟩

/-- What has no part in what may be written. -/
inductive VI (Im Bw : Nat → Prop) (w : World) : GV → Value → Prop
  | any (v : Value) : VI Im Bw w .any v
  | lit (v : Value) : VI Im Bw w (.lit v) v
  | zl (A : Option Addr) : VI Im Bw w .zl (.slice A 0 0)
  | ige (n m : Int) (h : n ≤ m) (h2 : m ≤ 9223372036854775807) : VI Im Bw w (.ige n) (.int .i64 m)
  | agg (cs : List GV) (vs : Array Value) (hn : vs.size = cs.length) (hf : ∀ (i : Nat), i < vs.size → flat (vs.getD i undef) = true)
      (h : ∀ (i : Nat) g, cs[i]? = some g → VI Im Bw w g (vs.getD i undef)) : VI Im Bw w (.agg cs) (.agg vs)
  | tup (cs : List GV) (vs : Array Value) (hn : vs.size = cs.length)
      (h : ∀ (i : Nat) g, cs[i]? = some g → VI Im Bw w g (vs.getD i undef)) : VI Im Bw w (.tup cs) (.tuple vs)
  | sl (bw : Bool) (sz : Nat) (xs ex : List (List GV)) (A : Option Addr) (c : Nat) (V : Nat → Nat → Value)
      (hc : xs.length + ex.length ≤ c ∧ c ≤ maxLen) (hA : A = none → c = 0) (hs : ∀ ad, A = some ad → ad.spot = none ∨ xs ++ ex = [])
      (hsz : ∀ x, x ∈ xs ++ ex → x.length = sz)
      (hcell : ∀ (i j : Nat) x g, (xs ++ ex)[i]? = some x → x[j]? = some g →
        ∃ ad, A = some ad ∧ (bif bw then Bw ad.block else Im ad.block) ∧ w.cell? ⟨ad.block, ad.off + (i * sz + j), none⟩ = some (V i j))
      (hf : ∀ (i j : Nat) x g, (xs ++ ex)[i]? = some x → x[j]? = some g → flat (V i j) = true)
      (hv : ∀ (i j : Nat) x g, (xs ++ ex)[i]? = some x → x[j]? = some g → VP Im w g (V i j)) :
      VI Im Bw w (.sl bw sz xs ex) (.slice A xs.length c)
  | iadr (bw : Bool) (cs : List GV) (ad : Addr) (V : Nat → Value) (hs : ad.spot = none)
      (hcell : ∀ (j : Nat) g, cs[j]? = some g → (bif bw then Bw ad.block else Im ad.block) ∧ w.cell? ⟨ad.block, ad.off + j, none⟩ = some (V j))
      (hf : ∀ (j : Nat) g, cs[j]? = some g → flat (V j) = true)
      (hv : ∀ (j : Nat) g, cs[j]? = some g → VP Im w g (V j)) :
      VI Im Bw w (.iadr bw cs) (.pointer (some ad))

theorem VP.toVI {Im Bw : Nat → Prop} {w : World} {g : GV} {v : Value} (h : VP Im w g v) : VI Im Bw w g v := by
  induction h with
  | any v => exact .any v
  | lit v => exact .lit v
  | zl A => exact .zl A
  | ige n m h h2 => exact .ige n m h h2
  | agg cs vs hn hf _ ih => exact .agg cs vs hn hf ih
  | tup cs vs hn _ ih => exact .tup cs vs hn ih
  | sl sz xs ex A c V hc hA hs hsz hcell hf hv _ => exact .sl false sz xs ex A c V hc hA hs hsz hcell hf hv
  | iadr cs ad V hs hcell hf hv _ => exact .iadr false cs ad V hs hcell hf hv

theorem VI.mono {Im Bw Im' Bw' : Nat → Prop} {w w' : World} (hI : ∀ b, Im b → Im' b) (hB : ∀ b, Bw b → Bw' b)
    (hw : ∀ b, Im b ∨ Bw b → w'.heap[b]? = w.heap[b]?) {g : GV} {v : Value} (h : VI Im Bw w g v) : VI Im' Bw' w' g v := by
  induction h with
  | any v => exact .any v
  | lit v => exact .lit v
  | zl A => exact .zl A
  | ige n m h h2 => exact .ige n m h h2
  | agg cs vs hn hf _ ih => exact .agg cs vs hn hf ih
  | tup cs vs hn _ ih => exact .tup cs vs hn ih
  | sl bw sz xs ex A c V hc hA hs hsz hcell hf hv =>
    refine .sl bw sz xs ex A c V hc hA hs hsz (fun i j x g hx hg => ?_) hf fun i j x g hx hg => (hv i j x g hx hg).mono hI fun b hb => hw b (.inl hb)
    obtain ⟨ad, e, hb, hcl⟩ := hcell i j x g hx hg
    refine ⟨ad, e, ?_, ?_⟩
    · cases bw <;> simp_all
    · rw [← hcl]; exact World.cell?_of_block (hw _ (by cases bw <;> simp_all))
  | iadr bw cs ad V hs hcell hf hv =>
    refine .iadr bw cs ad V hs (fun j g hg => ?_) hf fun j g hg => (hv j g hg).mono hI fun b hb => hw b (.inl hb)
    obtain ⟨hb, hcl⟩ := hcell j g hg
    refine ⟨?_, ?_⟩
    · cases bw <;> simp_all
    · rw [← hcl]; exact World.cell?_of_block (hw _ (by cases bw <;> simp_all))

mutual
/-- Nothing borrowed in it. -/
def nobw : GV → Bool
  | .sl bw _ _ _ => !bw
  | .iadr bw _ => !bw
  | .agg cs => nobwL cs
  | .tup cs => nobwL cs
  | .clo _ cs => nobwL cs
  | _ => true
def nobwL : List GV → Bool
  | [] => true
  | g :: l => nobw g && nobwL l
end

theorem nobwL_get {l : List GV} (h : nobwL l = true) {i : Nat} {g : GV} (hg : l[i]? = some g) : nobw g = true := by
  induction l generalizing i with
  | nil => simp at hg
  | cons x l ih =>
    simp only [nobwL, Bool.and_eq_true] at h
    cases i with
    | zero => simp at hg; subst hg; exact h.1
    | succ i => exact ih h.2 (by simpa using hg)

theorem VI.toVP {Im Bw : Nat → Prop} {w : World} {g : GV} {v : Value} (h : VI Im Bw w g v) : nobw g = true → VP Im w g v := by
  induction h with
  | any v => exact fun _ => .any v
  | lit v => exact fun _ => .lit v
  | zl A => exact fun _ => .zl A
  | ige n m h h2 => exact fun _ => .ige n m h h2
  | agg cs vs hn hf _ ih => exact fun hb => .agg cs vs hn hf fun i g hg => ih i g hg (nobwL_get (by simpa [Gh.nobw] using hb) hg)
  | tup cs vs hn _ ih => exact fun hb => .tup cs vs hn fun i g hg => ih i g hg (nobwL_get (by simpa [Gh.nobw] using hb) hg)
  | sl bw sz xs ex A c V hc hA hs hsz hcell hf hv =>
    intro hb
    simp only [Gh.nobw, Bool.not_eq_true'] at hb
    subst hb
    exact .sl sz xs ex A c V hc hA hs hsz hcell hf hv
  | iadr bw cs ad V hs hcell hf hv =>
    intro hb
    simp only [Gh.nobw, Bool.not_eq_true'] at hb
    subst hb
    exact .iadr cs ad V hs hcell hf hv

theorem VI.nobw {Im Bw Bw' : Nat → Prop} {w : World} {g : GV} {v : Value} (h : VI Im Bw w g v) (hb : nobw g = true) : VI Im Bw' w g v := (h.toVP hb).toVI

/-- A value, and what it is. -/
inductive VR (Im Bw D : Nat → Prop) (ι : Nat → Hd) (w : World) : GV → Value → Prop
  | imm {g v} (h : VI Im Bw w g v) : VR Im Bw D ι w g v
  | agg (cs : List GV) (vs : Array Value) (hn : vs.size = cs.length) (hf : ∀ (i : Nat), i < vs.size → flat (vs.getD i undef) = true)
      (h : ∀ (i : Nat) g, cs[i]? = some g → VR Im Bw D ι w g (vs.getD i undef)) : VR Im Bw D ι w (.agg cs) (.agg vs)
  | tup (cs : List GV) (vs : Array Value) (hn : vs.size = cs.length)
      (h : ∀ (i : Nat) g, cs[i]? = some g → VR Im Bw D ι w g (vs.getD i undef)) : VR Im Bw D ι w (.tup cs) (.tuple vs)
  | row (id : Nat) (hD : D id) : VR Im Bw D ι w (.row id) (.slice ((ι id).A.map fun b => ⟨b, 0, none⟩) (ι id).n (ι id).c)
  | sub (id lo hi : Nat) (hD : D id) (A : Option Addr) (c : Nat) (h1 : lo ≤ hi) (h2 : hi ≤ (ι id).n) (hc : hi - lo ≤ c ∧ c ≤ maxLen)
      (hA : A = none → c = 0) (hs : ∀ ad, A = some ad → ad.spot = none)
      (hb : lo < hi → ∃ b, (ι id).A = some b ∧ A = some ⟨b, lo * (ι id).sz, none⟩) : VR Im Bw D ι w (.sub id lo hi) (.slice A (hi - lo) c)
  | win (id lo hi : Nat) (hD : D id) (A : Option Addr) (h1 : lo ≤ hi) (h2 : hi ≤ (ι id).n) (hc : (ι id).c = (ι id).n ∧ (ι id).n ≤ maxLen)
      (hA : A = none → (ι id).n = 0) (hs : ∀ ad, A = some ad → ad.spot = none)
      (hb : lo < (ι id).n → ∃ b, (ι id).A = some b ∧ A = some ⟨b, lo * (ι id).sz, none⟩) : VR Im Bw D ι w (.win id lo hi) (.slice A (hi - lo) ((ι id).n - lo))
  | adr (id i j b : Nat) (hD : D id) (hb : (ι id).A = some b) : VR Im Bw D ι w (.adr id i j) (.pointer (some ⟨b, i * (ι id).sz + j, none⟩))
  | clo (f : Nat) (cs : List GV) (vs : Array Value) (hn : vs.size = cs.length)
      (h : ∀ (i : Nat) g, cs[i]? = some g → VR Im Bw D ι w g (vs.getD i undef)) : VR Im Bw D ι w (.clo f cs) (.func (.func f) #[] vs)

theorem VR.mono {Im Bw D Im' Bw' D' : Nat → Prop} {ι ι' : Nat → Hd} {w w' : World} (hI : ∀ b, Im b → Im' b) (hB : ∀ b, Bw b → Bw' b)
    (hD : ∀ i, D i → D' i) (hι : ∀ i, D i → ι' i = ι i)
    (hw : ∀ b, Im b ∨ Bw b → w'.heap[b]? = w.heap[b]?) {g : GV} {v : Value} (h : VR Im Bw D ι w g v) : VR Im' Bw' D' ι' w' g v := by
  induction h with
  | imm h => exact .imm (h.mono hI hB hw)
  | agg cs vs hn hf _ ih => exact .agg cs vs hn hf ih
  | tup cs vs hn _ ih => exact .tup cs vs hn ih
  | row id h => rw [← hι id h]; exact .row id (hD id h)
  | sub id lo hi h A c h1 h2 hc hA hs hb => exact .sub id lo hi (hD id h) A c h1 (by rw [hι id h]; exact h2) hc hA hs (by rw [hι id h]; exact hb)
  | win id lo hi h A h1 h2 hc hA hs hb => rw [← hι id h]; exact .win id lo hi (hD id h) A h1 (by rw [hι id h]; exact h2) (by rw [hι id h]; exact hc) (by rw [hι id h]; exact hA) hs (by rw [hι id h]; exact hb)
  | adr id i j b h hb => rw [← hι id h]; exact .adr id i j b (hD id h) (by rw [hι id h]; exact hb)
  | clo f cs vs hn _ ih => exact .clo f cs vs hn ih

theorem VR.nobw {Im Bw Bw' D : Nat → Prop} {ι : Nat → Hd} {w : World} {g : GV} {v : Value} (h : VR Im Bw D ι w g v) : nobw g = true → VR Im Bw' D ι w g v := by
  induction h with
  | imm h => exact fun hb => .imm (VI.nobw h hb)
  | agg cs vs hn hf _ ih => exact fun hb => .agg cs vs hn hf fun i g hg => ih i g hg (nobwL_get (by simpa [Gh.nobw] using hb) hg)
  | tup cs vs hn _ ih => exact fun hb => .tup cs vs hn fun i g hg => ih i g hg (nobwL_get (by simpa [Gh.nobw] using hb) hg)
  | row id h => exact fun _ => .row id h
  | sub id lo hi h A c h1 h2 hc hA hs hb => exact fun _ => .sub id lo hi h A c h1 h2 hc hA hs hb
  | win id lo hi h A h1 h2 hc hA hs hb => exact fun _ => .win id lo hi h A h1 h2 hc hA hs hb
  | adr id i j b h hb => exact fun _ => .adr id i j b h hb
  | clo f cs vs hn _ ih => exact fun hb => .clo f cs vs hn fun i g hg => ih i g hg (nobwL_get (by simpa [Gh.nobw] using hb) hg)

/-- What must not turn: what is read alone; what is lent; what belongs to others. -/
structure Ctx where
  Im : Nat → Prop
  Bw : Nat → Prop
  Fz : Nat → Prop

def Ctx.has (Γ : Ctx) (b : Nat) : Prop := Γ.Im b ∨ Γ.Bw b ∨ Γ.Fz b

structure Keep (Γ : Ctx) (w w' : World) : Prop where
  os : w'.os = w.os
  tape : w'.tape = w.tape
  output : w'.output = w.output
  size : w.heap.size ≤ w'.heap.size
  block : ∀ b, Γ.has b → w'.heap[b]? = w.heap[b]?

theorem Keep.refl (Γ : Ctx) (w : World) : Keep Γ w w := ⟨rfl, rfl, rfl, Nat.le_refl _, fun _ _ => rfl⟩

theorem Keep.trans {Γ Γ' : Ctx} {a b c : World} (h : Keep Γ a b) (h' : Keep Γ' b c) (hs : ∀ b, Γ.has b → Γ'.has b) : Keep Γ a c :=
  ⟨h'.os.trans h.os, h'.tape.trans h.tape, h'.output.trans h.output, Nat.le_trans h.size h'.size,
   fun x hx => (h'.block x (hs x hx)).trans (h.block x hx)⟩

theorem Keep.weaken {Γ Γ' : Ctx} {a b : World} (h : Keep Γ' a b) (hs : ∀ b, Γ.has b → Γ'.has b) : Keep Γ a b :=
  ⟨h.os, h.tape, h.output, h.size, fun x hx => h.block x (hs x hx)⟩

/-- An object, and what lies there. -/
def OR (V Vp : GV → Value → Prop) (w : World) (hd : Hd) : GO → Prop
  | .dead => True
  | .cells cs => hd.sz = 0 ∧ ∃ b arr t, hd.A = some b ∧ w.heap[b]? = some (.cells arr t (0, 0)) ∧ arr.size = cs.length ∧
      (∀ i, i < arr.size → flat (arr.getD i undef) = true) ∧ ∀ (j : Nat) g, cs[j]? = some g → V g (arr.getD j undef)
  | .row e sz xs => hd.sz = sz ∧ hd.n = xs.length ∧ (∀ x, x ∈ xs → x.length = sz) ∧ ∃ cs : List Value, w.ownsRow 0 e sz hd.val xs.length cs ∧
      (∀ v, v ∈ cs → flat v = true) ∧ ∀ (i j : Nat) x g, xs[i]? = some x → x[j]? = some g → Vp g (cs.getD (i * sz + j) undef)

theorem OR.mono {V V' Vp Vp' : GV → Value → Prop} {w w' : World} {hd : Hd} {o : GO} (hV : ∀ g v, V g v → V' g v) (hP : ∀ g v, Vp g v → Vp' g v)
    (hw : ∀ b, o ≠ .dead → hd.A = some b → w'.heap[b]? = w.heap[b]?) (h : OR V Vp w hd o) : OR V' Vp' w' hd o := by
  cases o with
  | dead => trivial
  | cells cs =>
    obtain ⟨h0, b, arr, t, h1, h2, h3, hf, h4⟩ := h
    exact ⟨h0, b, arr, t, h1, (hw b (by simp) h1).trans h2, h3, hf, fun j g hg => hV _ _ (h4 j g hg)⟩
  | row e sz xs =>
    obtain ⟨h0, h1, hz, cs, h2, hf, h3⟩ := h
    refine ⟨h0, h1, hz, cs, ⟨h2.1, ?_⟩, hf, fun i j x g hx hg => hP _ _ (h3 i j x g hx hg)⟩
    rcases h2.2 with h2 | ⟨b, cap, cur, hv, h3, h4, h5⟩
    · exact .inl h2
    · refine .inr ⟨b, cap, cur, hv, h3, (hw b (by simp) ?_).trans h4, h5⟩
      unfold Hd.val at hv
      cases hA : hd.A with
      | none => simp [hA] at hv
      | some b' => simp [hA] at hv; simp [hv.1]

theorem OR.lt {V Vp : GV → Value → Prop} {w : World} {hd : Hd} {o : GO} (h : OR V Vp w hd o) (ho : o ≠ .dead) {b : Nat} (hb : hd.A = some b) : b < w.heap.size := by
  cases o with
  | dead => exact absurd rfl ho
  | cells cs =>
    obtain ⟨_, b', arr, t, h1, h2, _⟩ := h
    obtain rfl : b' = b := Option.some.inj (h1.symm.trans hb)
    exact (Array.getElem?_eq_some_iff.1 h2).1
  | row e sz xs =>
    obtain ⟨_, _, _, cs, h2, _⟩ := h
    exact (h2.lt b (by simp [Hd.val, hb, Value.ownBlock])).2

structure SR (Γ : Ctx) (D : Nat → Prop) (ι : Nat → Hd) (M : Nat → GO) (w : World) : Prop where
  obj : ∀ id, OR (VR Γ.Im Γ.Bw D ι w) (VP Γ.Im w) w (ι id) (M id)
  liv : ∀ id, M id ≠ .dead → D id
  inj : ∀ i j b, M i ≠ .dead → M j ≠ .dead → (ι i).A = some b → (ι j).A = some b → i = j
  lt : ∀ b, Γ.has b → b < w.heap.size
  own : ∀ id b, M id ≠ .dead → (ι id).A = some b → ¬ Γ.has b
  dj : ∀ b, (Γ.Im b → ¬ Γ.Bw b) ∧ (Γ.Im b → ¬ Γ.Fz b) ∧ (Γ.Bw b → ¬ Γ.Fz b)

end Go.Gh
