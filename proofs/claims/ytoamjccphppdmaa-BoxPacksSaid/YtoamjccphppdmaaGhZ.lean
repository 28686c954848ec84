import Derived.Test.YtoamjccphppdmaaGhY
import Derived.Laws.Tables
import Derived.Great.BuildSlice

/-! Composite literals: structs, arrays and slices. -/

namespace Go.Gh
variable {P : Program}

/-- Cells, and what they are. -/
structure RC (V : GV → Value → Prop) (gs : List GV) (vs : Array Value) : Prop where
  len : vs.size = gs.length
  flt : ∀ (i : Nat), i < vs.size → flat (vs.getD i undef) = true
  rel : ∀ (i : Nat) g, gs[i]? = some g → V g (vs.getD i undef)

def gfill (place : Nat → Option (Nat × Nat)) : List GV → List (Nat × GV) → Option (List GV)
  | cells, [] => some cells
  | cells, (i, g) :: rest =>
    match place i, gcells g with
    | some (off, size), some cs => if cs.length = size ∧ off + size ≤ cells.length then gfill place (setMany cells off cs) rest else none
    | _, _ => none

theorem set_RC {V : GV → Value → Prop} {off : Nat} : ∀ (cs : List GV) (us : List Value) (s : Nat) (gs : List GV) (vs : Array Value), RC V gs vs → us.length = cs.length → off + s + cs.length ≤ gs.length →
    (∀ u, u ∈ us → flat u = true) → (∀ (i : Nat) g, cs[i]? = some g → V g (us.getD i undef)) →
    RC V (setMany gs (off + s) cs) ((us.zipIdx s).foldl (fun c (x : Value × Nat) => c.setIfInBounds (off + x.2) x.1) vs)
  | [], [], s, gs, vs, h, _, _, _, _ => by simpa [setMany] using h
  | c :: cs, u :: us, s, gs, vs, h, hl, hb, hf, hr => by
    rw [setMany, List.zipIdx_cons, List.foldl_cons]
    simp only
    have := set_RC (V := V) (off := off) cs us (s + 1) (gs.set (off + s) c) (vs.setIfInBounds (off + s) u) ⟨by simp [h.len], fun i hi => ?_, fun i g hg => ?_⟩ (by simpa using hl) (by simp at hb ⊢; omega)
      (fun x hx => hf x (List.mem_cons_of_mem _ hx)) (fun i g hg => by simpa using hr (i + 1) g (by simpa using hg))
    · rwa [← Nat.add_assoc] at this
    · simp only [Array.size_setIfInBounds] at hi
      by_cases e : off + s = i
      · subst e
        have : (vs.setIfInBounds (off + s) u).getD (off + s) undef = u := by simp [hi]
        rw [this]; exact hf u (List.mem_cons_self ..)
      · have : (vs.setIfInBounds (off + s) u).getD i undef = vs.getD i undef := by simp [e]
        rw [this]; exact h.flt i hi
    · by_cases e : off + s = i
      · subst e
        have hi : off + s < gs.length := by simp at hb; omega
        rw [List.getElem?_set_self hi] at hg
        cases hg
        have : (vs.setIfInBounds (off + s) u).getD (off + s) undef = u := by simp [h.len, hi]
        rw [this]; exact hr 0 c rfl
      · rw [List.getElem?_set_ne e] at hg
        have : (vs.setIfInBounds (off + s) u).getD i undef = vs.getD i undef := by simp [e]
        rw [this]; exact h.rel i g hg
  | [], _ :: _, _, _, _, _, hl, _, _, _ => by simp at hl
  | _ :: _, [], _, _, _, _, hl, _, _, _ => by simp at hl

section
variable {Im Bw D : Nat → Prop} {ι : Nat → Hd} {w : World}

theorem gfill_sound {place : Nat → Option (Nat × Nat)} : ∀ {parts : List (Nat × GV)} {us : List (Nat × Value)} {gs gs' : List GV} {vs : Array Value}, gfill place gs parts = some gs' →
    RC (VR Im Bw D ι w) gs vs → parts.map (·.1) = us.map (·.1) → (∀ (i : Nat) p u, parts[i]? = some p → us[i]? = some u → VR Im Bw D ι w p.2 u.2) →
    ∃ vs', Instr.fill place vs us = some vs' ∧ RC (VR Im Bw D ι w) gs' vs'
  | [], [], gs, gs', vs, h, hr, _, _ => by
    simp only [gfill, Option.some.injEq] at h
    subst h
    exact ⟨vs, rfl, hr⟩
  | (i, g) :: rest, (i', v) :: us, gs, gs', vs, h, hr, hi, hv => by
    simp only [List.map_cons, List.cons.injEq] at hi
    obtain ⟨rfl, hi⟩ := hi
    simp only [gfill] at h
    split at h
    · rename_i off size cs hp hc
      split at h
      · rename_i hcond
        obtain ⟨h1, h2, h3⟩ := gcells_sound (hv 0 _ _ rfl rfl) hc
        simp only at h1 h2 h3
        have hnew := set_RC (V := VR Im Bw D ι w) (off := off) cs v.cells.toList 0 gs vs hr (by simpa using h1) (by omega) h2 (fun i g hg => by
          have := h3 i g hg
          rwa [List.getD_eq_getElem?_getD, Array.getElem?_toList, ← Array.getD_eq_getD_getElem?])
        obtain ⟨vs', e1, e2⟩ := gfill_sound h hnew hi fun i p u hp hu => hv (i + 1) p u (by simpa using hp) (by simpa using hu)
        refine ⟨vs', ?_, e2⟩
        unfold Instr.fill
        simp only [hp]
        have hle := hr.len
        have c1 : ¬ (decide (v.cells.size ≠ size) || decide (off + v.cells.size > vs.size)) = true := by
          rw [h1, hcond.1, hr.len]
          simp
          omega
        rw [if_neg c1]
        rw [← e1]
        congr 1
        rw [← Array.foldl_toList, Array.toList_zipIdx]
      · cases h
    · cases h
  | [], _ :: _, _, _, _, _, _, h, _ => by simp at h
  | _ :: _, [], _, _, _, _, _, h, _ => by simp at h

theorem lit_RC {z : Array Value} (hf : z.toList.all flat = true) : RC (VR Im Bw D ι w) (z.toList.map .lit) z := by
  refine ⟨by simp, fun i hi => ?_, fun i g hg => ?_⟩
  · have : z.getD i undef = z[i] := by simp [hi]
    rw [this]
    exact List.all_eq_true.1 hf _ (by simp)
  · rw [List.getElem?_map, Option.map_eq_some_iff] at hg
    obtain ⟨u, hu, rfl⟩ := hg
    have : z.getD i undef = u := by
      rw [Array.getElem?_toList] at hu
      rw [Array.getD_eq_getD_getElem?, hu]; rfl
    rw [this]; exact .imm (.lit u)

end

theorem range_mod {α : Type} (f : Nat → α) (sz : Nat) (hp : 0 < sz) : ∀ n, (List.range (n * sz)).map (fun k => f (k % sz)) = (List.replicate n ((List.range sz).map f)).flatten
  | 0 => by simp
  | n + 1 => by
    rw [Nat.add_mul, Nat.one_mul, Nat.add_comm, List.range_add, List.map_append, List.replicate_succ, List.flatten_cons, ← range_mod f sz hp n]
    congr 1
    · refine List.map_congr_left fun k hk => ?_
      rw [Nat.mod_eq_of_lt (by simpa using hk)]
    · rw [List.map_map]
      refine List.map_congr_left fun k _ => ?_
      simp

theorem flatten_len {α : Type} {sz : Nat} : ∀ {xs : List (List α)}, (∀ x, x ∈ xs → x.length = sz) → xs.flatten.length = xs.length * sz
  | [], _ => by simp
  | x :: xs, h => by
    rw [List.flatten_cons, List.length_append, h x (List.mem_cons_self ..), flatten_len fun y hy => h y (List.mem_cons_of_mem _ hy), List.length_cons, Nat.add_mul, Nat.one_mul, Nat.add_comm]

theorem flatten_get {α : Type} {sz : Nat} : ∀ {xs : List (List α)} {i j : Nat} {x : List α} {g : α}, (∀ x, x ∈ xs → x.length = sz) → xs[i]? = some x → x[j]? = some g → xs.flatten[i * sz + j]? = some g
  | [], i, j, x, g, _, h, _ => by simp at h
  | y :: xs, 0, j, x, g, hl, h, hg => by
    simp only [List.getElem?_cons_zero, Option.some.injEq] at h
    subst h
    rw [List.flatten_cons, Nat.zero_mul, Nat.zero_add, List.getElem?_append_left (List.getElem?_eq_some_iff.1 hg).1]
    exact hg
  | y :: xs, i + 1, j, x, g, hl, h, hg => by
    have h1 := hl y (List.mem_cons_self ..)
    rw [List.flatten_cons, Nat.add_mul, Nat.one_mul, List.getElem?_append_right (by omega), show i * sz + sz + j - y.length = i * sz + j by omega]
    exact flatten_get (fun y hy => hl y (List.mem_cons_of_mem _ hy)) (by simpa using h) hg

section
variable {o : Oper} {ρ : Rho} {nb : Nat} {M0 : Nat → GO}

/-- Where the parts of a composite of this type lie. -/
def placesOf (P : Program) (t : TypeId) : Option (Nat → Option (Nat × Nat)) :=
  match P.underlying t with
  | some (.array _ e) => (P.info? e).map fun ie => fun i => some (i * ie.size, ie.size)
  | some (.struct fields) => (fields.toList.mapM (fun f => (P.info? f.type).map fun i => (f.offset, i.size))).map fun places => fun i => places[i]?
  | _ => none

theorem built_of {t : TypeId} {place : Nat → Option (Nat × Nat)} {z : Value} {parts : List (Nat × Value)} (hp : placesOf P t = some place) (hz : zeroOf P t = some z) : P.built t parts = Instr.fill place z.cells parts := by
  unfold zeroOf at hz
  unfold placesOf at hp
  unfold Program.built
  cases hi : P.info? t with
  | none => simp [hi] at hz
  | some it =>
    simp [hi] at hz
    split at hp
    · rename_i n e hu
      obtain ⟨ie, hie, rfl⟩ := Option.map_eq_some_iff.1 hp
      simp [hu, hz, hie]
    · rename_i fs hu
      obtain ⟨pl, hpl, rfl⟩ := Option.map_eq_some_iff.1 hp
      simp only [hu, hz, hpl]
      congr 1
      funext i
      simp
    · cases hp

theorem os_build {t : TypeId} {parts : Array (Nat × Operand)} {place : Nat → Option (Nat × Nat)} {z : Value} {gs : List GV} (ho : o.op = .build t parts) (hp : placesOf P t = some place) (hz : zeroOf P t = some z)
    (hf : flatAll z = true) (hg : gfill place (z.cells.toList.map .lit) (parts.toList.map fun x => (x.1, ρ x.2)) = some gs) : OpS P o ρ nb M0 [] (.agg gs) [] [] := by
  refine .quiet fun Γ D ι M w ac hS hV _ => ?_
  obtain ⟨vs, h1, h2⟩ := gfill_sound (Im := Γ.Im) (Bw := Γ.Bw) (D := D) (ι := ι) (w := w) (us := parts.toList.map fun x => (x.1, ac.eval x.2)) hg (lit_RC hf) (by simp) (fun i p u hp hu => by
    rw [List.getElem?_map, Option.map_eq_some_iff] at hp hu
    obtain ⟨x, hx, rfl⟩ := hp
    obtain ⟨y, hy, rfl⟩ := hu
    obtain rfl : x = y := Option.some.inj (hx.symm.trans hy)
    exact hV x.2 (by
      rw [ho]
      simp only [Op.operands]
      exact (by simpa using ⟨x.1, Array.mem_iff_getElem?.2 ⟨i, by simpa using hx⟩⟩)))
  refine ⟨.agg vs, .agg gs vs h2.len h2.flt h2.rel, ?_⟩
  have hb := run_build (P := P) w t (parts.map fun (i, x) => (i, ac.eval x)) vs (by rw [built_of hp hz, ← h1]; simp)
  simp only [execOp, ho, Sem.run_bind, hb, Result.andThen_ok, Sem.run_pure]

theorem os_buildSlice {t e : TypeId} {len sz : Nat} {parts : Array (Nat × Operand)} {z : Value} {gs : List GV} {xs : List (List GV)} (ho : o.op = .buildSlice t len parts) (ht : P.underlying t = some (.slice e))
    (hsz : P.cellsOf e = sz) (hz : zeroOf P e = some z) (hzs : z.cells.size = sz) (hpos : 0 < sz) (hlen : 0 < len) (hsmall : len * sz ≤ 16777216)
    (hf : flatAll z = true) (hg : gfill (fun i => some (i * sz, sz)) ((List.replicate len (z.cells.toList.map .lit)).flatten) (parts.toList.map fun x => (x.1, ρ x.2)) = some gs)
    (hpu : pureL gs = true) (hxs : gs = xs.flatten) (hxl : xs.length = len) (hxe : xs.all (fun x => x.length == sz) = true) : OpS P o ρ nb M0 [] (.row nb) [] [.row e sz xs] := by
  refine .make fun Γ D ι M w ac hS hV _ hn => ?_
  obtain ⟨ie, zv, hie, hzv, h3, h4⟩ : ∃ ie zv, P.info? e = some ie ∧ ie.zero = some zv ∧ ie.size = sz ∧ zv = z := by
    unfold zeroOf at hz
    unfold Program.cellsOf at hsz
    cases hi : P.info? e with
    | none => simp [hi] at hz
    | some i => simp [hi] at hz hsz; exact ⟨i, z, rfl, hz, hsz, rfl⟩
  subst h4
  have hz0 : ((Array.range (len * sz)).map (zv.cells[· % zv.cells.size]!)).toList = (List.replicate len zv.cells.toList).flatten := by
    have := range_mod (fun k => zv.cells[k]!) sz hpos len
    rw [Array.toList_map, Array.toList_range, hzs, this]
    congr 2
    apply List.ext_getElem?
    intro k
    by_cases hk : k < sz
    · simp [hk, hzs]
    · simp [hk, hzs]
  have hzrow : ((Array.range (len * sz)).map (zv.cells[· % zv.cells.size]!)).toList.map GV.lit = (List.replicate len (zv.cells.toList.map .lit)).flatten := by
    rw [hz0, List.map_flatten, List.map_replicate]
  have hzf : ((Array.range (len * sz)).map (zv.cells[· % zv.cells.size]!)).toList.all flat = true := by
    rw [hz0, List.all_eq_true]
    intro u hu
    simp only [List.mem_flatten, List.mem_replicate] at hu
    obtain ⟨l, ⟨_, rfl⟩, hu⟩ := hu
    exact List.all_eq_true.1 hf u hu
  rw [← hzrow] at hg
  obtain ⟨vs, h1, h2⟩ := gfill_sound (Im := Γ.Im) (Bw := Γ.Bw) (D := D) (ι := ι) (w := w) (us := parts.toList.map fun x => (x.1, ac.eval x.2)) hg (lit_RC hzf) (by simp) (fun i p u hp hu => by
    rw [List.getElem?_map, Option.map_eq_some_iff] at hp hu
    obtain ⟨x, hx, rfl⟩ := hp
    obtain ⟨y, hy, rfl⟩ := hu
    obtain rfl : x = y := Option.some.inj (hx.symm.trans hy)
    exact hV x.2 (by
      rw [ho]
      simp only [Op.operands]
      exact (by simpa using ⟨x.1, Array.mem_iff_getElem?.2 ⟨i, by simpa using hx⟩⟩)))
  have hxz : ∀ x, x ∈ xs → x.length = sz := fun x hx => by simpa using List.all_eq_true.1 hxe x hx
  have hvs : vs.size = len * sz := by
    rw [h2.len, hxs, flatten_len hxz, hxl]
  have hr := run_buildSlice (P := P) w t e len (parts.map fun (i, x) => (i, ac.eval x)) vs ie zv ht hie hzv (by rw [h3]; omega) (by rw [h3]; exact Nat.mul_ne_zero (by omega) (by omega)) (by rw [h3, ← h1]; simp)
  refine ⟨⟨some w.heap.size, sz, len, len⟩, .slice (some ⟨w.heap.size, 0, none⟩) len len, w.alloc (.cells vs e), ?_, rfl, rfl, rfl, by simp, fun b hb => heap_alloc_old w _ hb, fun b hb => by simp at hb; omega, fun D' ι' hD hDn hι hιn => ⟨?_, ?_⟩⟩
  · simp only [execOp, ho, Sem.run_bind, hr, Result.andThen_ok, Sem.run_pure]
  · refine ⟨rfl, hxl.symm, hxz, vs.toList, ⟨by simp [hvs, hxl], .inr ⟨w.heap.size, len, vs, ?_, Nat.zero_le _, heap_alloc_new w _, by omega, ?_, hvs, ?_⟩⟩, fun v hv => ?_, fun i j x g hx hg => ?_⟩
    · simp [Hd.val, hxl]
    · unfold maxLen
      have : len * 1 ≤ len * sz := Nat.mul_le_mul_left _ hpos
      omega
    · rw [hxl, List.take_of_length_le (by simp [hvs])]
    · obtain ⟨i, hi, rfl⟩ := List.mem_iff_getElem.1 hv
      have := h2.flt i (by simpa using hi)
      simpa [show i < vs.size by simpa using hi] using this
    · have hgs : gs[i * sz + j]? = some g := by rw [hxs]; exact flatten_get hxz hx hg
      have := (h2.rel _ g hgs).toVP (pureL_get hpu hgs).1 (pureL_get hpu hgs).2
      rw [List.getD_eq_getElem?_getD, Array.getElem?_toList, ← Array.getD_eq_getD_getElem?]
      exact this.mono (fun _ h => h) fun b hb => heap_alloc_old w _ (hS.lt b (.inl hb))
  · have := VR.row (Im := Γ.Im) (Bw := Γ.Bw) (D := D') (ι := ι') (w := w.alloc (.cells vs e)) nb hDn
    simpa [hιn] using this

end

/-! The rules. -/

def placesT (T : Tab P) (t : Nat) : Option (Nat → Option (Nat × Nat)) :=
  match T.u t with
  | some (.array _ e) => if T.sz e ≠ 0 then some fun i => some (i * T.sz e, T.sz e) else none
  | some (.struct fields) => if fields.toList.all (fun f => T.sz f.type != 0) then some fun i => (fields.toList.map fun f => (f.offset, T.sz f.type))[i]? else none
  | _ => none

theorem info_size (T : Tab P) {t : Nat} (h : T.sz t ≠ 0) : ∃ i, P.info? t = some i ∧ i.size = T.sz t := by
  have := T.szok t h
  unfold Program.cellsOf at this
  cases hi : P.info? t with
  | none => simp [hi] at this; omega
  | some i => simp [hi] at this; exact ⟨i, rfl, this⟩

theorem placesT_ok {T : Tab P} {t : Nat} {pl : Nat → Option (Nat × Nat)} (h : placesT T t = some pl) : placesOf P t = some pl := by
  unfold placesT at h
  unfold placesOf
  split at h
  · rename_i n e hu
    rw [T.uok _ _ hu]
    split at h
    · rename_i hne
      obtain ⟨i, hi, hs⟩ := info_size T hne
      simp only [hi, Option.map_some, hs]
      exact h
    · cases h
  · rename_i fs hu
    rw [T.uok _ _ hu]
    split at h
    · rename_i hne
      have : ∀ (l : List Field), l.all (fun f => T.sz f.type != 0) = true → l.mapM (fun f => (P.info? f.type).map fun i => (f.offset, i.size)) = some (l.map fun f => (f.offset, T.sz f.type)) := by
        intro l
        induction l with
        | nil => intro _; rfl
        | cons f l ih =>
          intro hl
          simp only [List.all_cons, Bool.and_eq_true, bne_iff_ne, ne_eq] at hl
          obtain ⟨i, hi, hs⟩ := info_size T hl.1
          simp [List.mapM_cons, hi, hs, ih hl.2]
      simp only [this _ hne, Option.map_some]
      exact h
    · cases h
  · cases h

def chunks (sz : Nat) : Nat → List GV → List (List GV)
  | 0, _ => []
  | n + 1, gs => gs.take sz :: chunks sz n (gs.drop sz)

theorem chunks_ok {sz : Nat} : ∀ (n : Nat) (gs : List GV), gs.length = n * sz → gs = (chunks sz n gs).flatten ∧ (chunks sz n gs).length = n ∧ (chunks sz n gs).all (fun x => x.length == sz) = true
  | 0, gs, h => by
    have : gs = [] := List.eq_nil_of_length_eq_zero (by simpa using h)
    subst this; exact ⟨rfl, rfl, rfl⟩
  | n + 1, gs, h => by
    rw [Nat.add_mul, Nat.one_mul] at h
    obtain ⟨h1, h2, h3⟩ := chunks_ok (sz := sz) n (gs.drop sz) (by rw [List.length_drop]; omega)
    refine ⟨?_, by simp [chunks, h2], ?_⟩
    · rw [chunks, List.flatten_cons, ← h1, List.take_append_drop]
    · rw [chunks, List.all_cons, h3]
      simp; omega

theorem ch_s (sz n : Nat) (gs : List GV) : chunks sz (n + 1) gs = gs.take sz :: chunks sz n (gs.drop sz) := rfl
theorem ch_z (sz : Nat) (gs : List GV) : chunks sz 0 gs = [] := rfl
theorem mp_s {α β : Type} (f : α → β) (x : α) (l : List α) : (x :: l).map f = f x :: l.map f := rfl
theorem mp_z {α β : Type} (f : α → β) : ([] : List α).map f = [] := rfl
theorem ap_s {α : Type} (x : α) (l l' : List α) : (x :: l) ++ l' = x :: (l ++ l') := rfl
theorem ap_z {α : Type} (l : List α) : [] ++ l = l := rfl
theorem ta_l {α : Type} (l : List α) : (List.toArray l).toList = l := rfl
theorem rp_s {α : Type} (n : Nat) (x : α) : List.replicate (n + 1) x = x :: List.replicate n x := rfl
theorem rp_z {α : Type} (x : α) : List.replicate 0 x = [] := rfl

section
variable (T : Tab P) {ds : List (Option Tmp)} {o : Oper} {rest : List Oper} {σ σ' : List GV} {M M' : List GO} {tr : List RI} {K : List GV → List GO → List RI → Prop}

theorem TW.bu {t : TypeId} {parts : Array (Nat × Operand)} {place : Nat → Option (Nat × Nat)} {z : Value} {gs : List GV} (ho : o.op = .build t parts) (hg : o.guard = none) (hpl : placesT T t = some place) (hz : T.z t = some z)
    (hf : flatAll z = true) (hgf : gfill place (z.cells.toList.map .lit) (parts.toList.map fun x => (x.1, rhoOf σ x.2)) = some gs) (hp : putS σ o.dst (.agg gs) = σ')
    (h : TW P ds rest σ' M (tr ++ [⟨o.dst, [], [], M.length, 0⟩]) K) : TW P ds (o :: rest) σ M tr K := by
  subst hp
  exact TW.rd hg (os_build ho (placesT_ok hpl) (T.zok _ _ hz) hf hgf) h

theorem TW.bl {t e : TypeId} {len : Nat} {parts : Array (Nat × Operand)} {z : Value} {gs : List GV} {xs : List (List GV)} (ho : o.op = .buildSlice t len parts) (hg : o.guard = none) (ht : T.u t = some (.slice e)) (hz : T.z e = some z)
    (hzs : z.cells.size = T.sz e) (hc : T.sz e ≠ 0 ∧ 0 < len ∧ len * T.sz e ≤ 16777216) (hf : flatAll z = true)
    (hgf : gfill (fun i => some (i * T.sz e, T.sz e)) ((List.replicate len (z.cells.toList.map .lit)).flatten) (parts.toList.map fun x => (x.1, rhoOf σ x.2)) = some gs)
    (hgl : gs.length = len * T.sz e) (hpu : pureL gs = true) (hxs : chunks (T.sz e) len gs = xs) (hp : putS σ o.dst (.row M.length) = σ') (hM : M ++ [.row e (T.sz e) xs] = M')
    (h : TW P ds rest σ' M' (tr ++ [⟨o.dst, [], [], M.length, 1⟩]) K) : TW P ds (o :: rest) σ M tr K := by
  subst hp; subst hM; subst hxs
  obtain ⟨h1, h2, h3⟩ := chunks_ok len gs hgl
  exact TW.step (by unfold gwantD; rw [hg]) (os_buildSlice ho (T.uok _ _ ht) (T.szok _ hc.1) (T.zok _ _ hz) hzs (by omega) hc.2.1 hc.2.2 hf hgf hpu h1 h2 h3) (by simp) h

end
end Go.Gh
