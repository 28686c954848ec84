import Derived.Test.YtoamjccphppdmaaGhK

namespace Go.Gh

mutual
/-- Objects numbered anew. -/
def ren (f : Nat → Nat) : GV → GV
  | .row id => .row (f id)
  | .sub id lo hi => .sub (f id) lo hi
  | .win id lo hi => .win (f id) lo hi
  | .adr id i j => .adr (f id) i j
  | .agg cs => .agg (renL f cs)
  | .tup cs => .tup (renL f cs)
  | .clo n cs => .clo n (renL f cs)
  | g => g
def renL (f : Nat → Nat) : List GV → List GV
  | [] => []
  | g :: l => ren f g :: renL f l
end

mutual
/-- Only these objects are spoken of. -/
def gin (ids : List Nat) : GV → Bool
  | .row id => ids.contains id
  | .sub id _ _ => ids.contains id
  | .win id _ _ => ids.contains id
  | .adr id _ _ => ids.contains id
  | .agg cs => ginL ids cs
  | .tup cs => ginL ids cs
  | .clo _ cs => ginL ids cs
  | _ => true
def ginL (ids : List Nat) : List GV → Bool
  | [] => true
  | g :: l => gin ids g && ginL ids l
end

theorem renL_get (f : Nat → Nat) : ∀ (l : List GV) (i : Nat), (renL f l)[i]? = (l[i]?).map (ren f)
  | [], i => by simp [renL]
  | g :: l, 0 => by simp [renL]
  | g :: l, i + 1 => by simp [renL, renL_get f l i]

theorem renL_length (f : Nat → Nat) : ∀ (l : List GV), (renL f l).length = l.length
  | [] => rfl
  | g :: l => by simp [renL, renL_length f l]

theorem ginL_get {ids : List Nat} : ∀ {l : List GV} {i : Nat} {g : GV}, ginL ids l = true → l[i]? = some g → gin ids g = true
  | [], i, g, _, h => by simp at h
  | x :: l, 0, g, h, hg => by simp at hg; subst hg; simp only [ginL, Bool.and_eq_true] at h; exact h.1
  | x :: l, i + 1, g, h, hg => by simp only [ginL, Bool.and_eq_true] at h; exact ginL_get h.2 (by simpa using hg)

section
variable {Im Bw D : Nat → Prop} {ι : Nat → Hd} {w : World}

theorem VI.ren {f : Nat → Nat} {g : GV} {v : Value} (h : VI Im Bw w g v) : VI Im Bw w (ren f g) v := by
  induction h with
  | any v => exact .any v
  | lit v => exact .lit v
  | zl A => exact .zl A
  | ige n m h h2 => exact .ige n m h h2
  | agg cs vs hn hf _ ih =>
    refine .agg _ vs (by rw [renL_length]; exact hn) hf fun i g hg => ?_
    rw [renL_get] at hg
    obtain ⟨x, hx, rfl⟩ := Option.map_eq_some_iff.1 hg
    exact ih i x hx
  | tup cs vs hn _ ih =>
    refine .tup _ vs (by rw [renL_length]; exact hn) fun i g hg => ?_
    rw [renL_get] at hg
    obtain ⟨x, hx, rfl⟩ := Option.map_eq_some_iff.1 hg
    exact ih i x hx
  | sl bw sz xs ex A c V hc hA hs hsz hcell hf hv => exact .sl bw sz xs ex A c V hc hA hs hsz hcell hf hv
  | iadr bw cs ad V hs hcell hf hv => exact .iadr bw cs ad V hs hcell hf hv

theorem VR.ren {f : Nat → Nat} {D' : Nat → Prop} {ι' : Nat → Hd} (hD : ∀ i, D i → D' (f i) ∧ ι' (f i) = ι i) {g : GV} {v : Value} (h : VR Im Bw D ι w g v) : VR Im Bw D' ι' w (ren f g) v := by
  induction h with
  | imm h => exact .imm h.ren
  | agg cs vs hn hf _ ih =>
    refine .agg _ vs (by rw [renL_length]; exact hn) hf fun i g hg => ?_
    rw [renL_get] at hg
    obtain ⟨x, hx, rfl⟩ := Option.map_eq_some_iff.1 hg
    exact ih i x hx
  | tup cs vs hn _ ih =>
    refine .tup _ vs (by rw [renL_length]; exact hn) fun i g hg => ?_
    rw [renL_get] at hg
    obtain ⟨x, hx, rfl⟩ := Option.map_eq_some_iff.1 hg
    exact ih i x hx
  | row id h =>
    obtain ⟨h1, h2⟩ := hD id h
    rw [← h2]; exact .row _ h1
  | sub id lo hi h A c a b c' d e k =>
    obtain ⟨h1, h2⟩ := hD id h
    exact .sub _ lo hi h1 A c a (by rw [h2]; exact b) c' d e (by rw [h2]; exact k)
  | win id lo hi h A a b c' d e k =>
    obtain ⟨h1, h2⟩ := hD id h
    rw [← h2]; exact .win _ lo hi h1 A a (by rw [h2]; exact b) (by rw [h2]; exact c') (by rw [h2]; exact d) e (by rw [h2]; exact k)
  | adr id i j b h hb =>
    obtain ⟨h1, h2⟩ := hD id h
    rw [← h2]; exact .adr _ i j b h1 (by rw [h2]; exact hb)
  | clo n cs vs hn _ ih =>
    refine .clo n _ vs (by rw [renL_length]; exact hn) fun i g hg => ?_
    rw [renL_get] at hg
    obtain ⟨x, hx, rfl⟩ := Option.map_eq_some_iff.1 hg
    exact ih i x hx

theorem VR.restrict {ids : List Nat} {g : GV} {v : Value} (h : VR Im Bw D ι w g v) : gin ids g = true → VR Im Bw (· ∈ ids) ι w g v := by
  induction h with
  | imm h => exact fun _ => .imm h
  | agg cs vs hn hf _ ih => exact fun hg => .agg cs vs hn hf fun i g hg' => ih i g hg' (ginL_get (by simpa [gin] using hg) hg')
  | tup cs vs hn _ ih => exact fun hg => .tup cs vs hn fun i g hg' => ih i g hg' (ginL_get (by simpa [gin] using hg) hg')
  | row id h => exact fun hg => .row id (by simpa [gin] using hg)
  | sub id lo hi h A c a b c' d e k => exact fun hg => .sub id lo hi (by simpa [gin] using hg) A c a b c' d e k
  | win id lo hi h A a b c' d e k => exact fun hg => .win id lo hi (by simpa [gin] using hg) A a b c' d e k
  | adr id i j b h hb => exact fun hg => .adr id i j b (by simpa [gin] using hg) hb
  | clo n cs vs hn _ ih => exact fun hg => .clo n cs vs hn fun i g hg' => ih i g hg' (ginL_get (by simpa [gin] using hg) hg')

/-- A row, lent out to be read. -/
theorem lend_src {u : Value} {sz : Nat} {ys : List (List GV)} {A : Option Addr} {c : Nat} {news : List Value} (bw : Bool) (hs : Src (VP Im w) w u sz ys A c news)
    (hA : ∀ a, A = some a → a.spot = none) (hc : ys.length ≤ c) {Im' Bw' : Nat → Prop} (hI : ∀ b, Im b → Im' b)
    (hb : ∀ a, A = some a → ys.length ≠ 0 → bif bw then Bw' a.block else Im' a.block) : VI Im' Bw' w (.sl bw sz ys []) u := by
  rw [hs.val]
  have cellOf : ∀ (i j : Nat) x g, (ys ++ [])[i]? = some x → x[j]? = some g → i < ys.length ∧ j < sz ∧ ys[i]? = some x ∧ i * sz + j < news.length := fun i j x g hx hg => by
    rw [List.append_nil] at hx
    have h1 : i < ys.length := (List.getElem?_eq_some_iff.1 hx).1
    have h2 := hs.esz x (List.mem_of_getElem? hx)
    have h3 : j < sz := by rw [← h2]; exact (List.getElem?_eq_some_iff.1 hg).1
    exact ⟨h1, h3, hx, by rw [hs.len]; exact grid_lt h1 h3⟩
  refine .sl bw sz ys [] A c (fun i j => news.getD (i * sz + j) undef) ⟨by simpa using hc, hs.cb⟩ (fun h => (hs.nil h).2) (fun a h => .inl (hA a h)) (fun x hx => hs.esz x (by simpa using hx)) (fun i j x g hx hg => ?_) (fun i j x g hx hg => ?_) (fun i j x g hx hg => ?_)
  · obtain ⟨h1, h2, h3, h4⟩ := cellOf i j x g hx hg
    have e : news.getD (i * sz + j) undef = news[i * sz + j] := by simp [h4]
    obtain ⟨a, ha, hcl⟩ := hs.cell (i * sz + j) news[i * sz + j] (List.getElem?_eq_getElem h4)
    refine ⟨a, ha, hb a ha (by omega), ?_⟩
    rw [e, ← add_addr (hA a ha)]
    exact hcl
  · obtain ⟨h1, h2, h3, h4⟩ := cellOf i j x g hx hg
    have e : news.getD (i * sz + j) undef = news[i * sz + j] := by simp [h4]
    simp only [e]
    exact hs.flt _ (List.getElem_mem h4)
  · obtain ⟨h1, h2, h3, h4⟩ := cellOf i j x g hx hg
    exact (hs.rel i j x g h3 hg).mono hI fun _ _ => rfl

end

/-- An object numbered anew. -/
def renO (f : Nat → Nat) : GO → GO
  | .dead => .dead
  | .cells cs => .cells (renL f cs)
  | .row e sz xs => .row e sz xs

def ginO (ids : List Nat) : GO → Bool
  | .dead => true
  | .cells cs => ginL ids cs
  | .row _ _ _ => true

def nobwO : GO → Bool
  | .dead => true
  | .cells cs => nobwL cs
  | .row _ _ _ => true

theorem OR.ren {V V' Vp : GV → Value → Prop} {w : World} {hd : Hd} {o : GO} {f : Nat → Nat} (h : OR V Vp w hd o) (hV : ∀ g v, V g v → V' (ren f g) v) : OR V' Vp w hd (renO f o) := by
  cases o with
  | dead => trivial
  | cells cs =>
    obtain ⟨h0, b, arr, t, h1, h2, h3, h4, h5⟩ := h
    refine ⟨h0, b, arr, t, h1, h2, by rw [renL_length]; exact h3, h4, fun j g hg => ?_⟩
    rw [renL_get] at hg
    obtain ⟨x, hx, rfl⟩ := Option.map_eq_some_iff.1 hg
    exact hV _ _ (h5 j x hx)
  | row e sz xs => exact h

/-- What holds of an object's parts. -/
def allO (p : GV → Prop) : GO → Prop
  | .dead => True
  | .cells cs => ∀ (i : Nat) g, cs[i]? = some g → p g
  | .row _ _ _ => True

theorem OR.monoP {V V' Vp Vp' : GV → Value → Prop} {w : World} {hd : Hd} {o : GO} {p : GV → Prop} (h : OR V Vp w hd o) (hp : allO p o) (hV : ∀ g v, p g → V g v → V' g v) (hP : ∀ g v, Vp g v → Vp' g v) : OR V' Vp' w hd o := by
  cases o with
  | dead => trivial
  | cells cs =>
    obtain ⟨h0, b, arr, t, h1, h2, h3, h4, h5⟩ := h
    exact ⟨h0, b, arr, t, h1, h2, h3, h4, fun j g hg => hV _ _ (hp j g hg) (h5 j g hg)⟩
  | row e sz xs =>
    obtain ⟨h0, h1, h2, cs, h3, h4, h5⟩ := h
    exact ⟨h0, h1, h2, cs, h3, h4, fun i j x g hx hg => hP _ _ (h5 i j x g hx hg)⟩

theorem allO_gin {ids : List Nat} {o : GO} (h : ginO ids o = true) : allO (fun g => gin ids g = true) o := by
  cases o with
  | dead => trivial
  | cells cs => exact fun i g hg => ginL_get h hg
  | row e sz xs => trivial

theorem allO_nobw {o : GO} (h : nobwO o = true) : allO (fun g => nobw g = true) o := by
  cases o with
  | dead => trivial
  | cells cs => exact fun i g hg => nobwL_get h hg
  | row e sz xs => trivial

end Go.Gh
