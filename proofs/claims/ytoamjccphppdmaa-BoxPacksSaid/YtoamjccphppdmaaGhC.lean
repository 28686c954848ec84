import Derived.Test.YtoamjccphppdmaaGhB

namespace Go.Gh

/-! Types, as the operations ask of them. -/

def zeroOf (P : Program) (t : TypeId) : Option Value := (P.info? t).bind (·.zero)
def aggT (P : Program) (t : TypeId) : Option Bool :=
  (P.underlying t).map fun | .struct _ | .array _ _ => true | _ => false

section
variable {P : Program} {w : World}

theorem info_of_underlying {t : TypeId} {d : TypeDesc} (h : P.underlying t = some d) : ∃ i, P.info? t = some i := by
  unfold Program.underlying at h
  split at h <;> first | exact ⟨_, by assumption⟩ | cases h

theorem run_und {t : TypeId} {d : TypeDesc} (h : P.underlying t = some d) : (underlying t).run P w = .ok d w := by
  simp [underlying, h]

theorem aggT_und {t : TypeId} {b : Bool} (h : aggT P t = some b) : ∃ d, P.underlying t = some d := by
  unfold aggT at h
  cases e : P.underlying t with
  | none => simp [e] at h
  | some d => exact ⟨d, rfl⟩

theorem run_sz {t : TypeId} {i : TypeInfo} (h : P.info? t = some i) : (sizeOf t).run P w = .ok (P.cellsOf t) w := by
  simp [sizeOf, typeInfo, h, Program.cellsOf]

theorem run_szU {t : TypeId} {d : TypeDesc} (h : P.underlying t = some d) : (sizeOf t).run P w = .ok (P.cellsOf t) w := by
  obtain ⟨i, hi⟩ := info_of_underlying h
  exact run_sz hi

theorem run_isA {t : TypeId} {b : Bool} (h : aggT P t = some b) : (isAgg t).run P w = .ok b w := by
  obtain ⟨d, hd⟩ := aggT_und h
  unfold aggT at h
  simp only [hd, Option.map_some, Option.some.injEq] at h
  simp only [isAgg, Sem.run_bind, run_und hd, Result.andThen_ok]
  subst h
  cases d <;> rfl

theorem add_addr {ad : Addr} (hs : ad.spot = none) (n : Nat) : ad.add n = ⟨ad.block, ad.off + n, none⟩ := by
  cases ad with
  | mk b o s => simp only at hs; subst hs; unfold Addr.add; split <;> simp_all

theorem add_lit (b o n : Nat) : (⟨b, o, none⟩ : Addr).add n = ⟨b, o + n, none⟩ := add_addr rfl n

end

/-! Loading. -/

def ldv (P : Program) (t : TypeId) (cs : List GV) : Option GV :=
  match aggT P t with
  | some true => if P.cellsOf t ≤ cs.length then some (.agg (cs.take (P.cellsOf t))) else none
  | some false => cs.head?
  | none => none

def cellsAt (o : GO) (i : Nat) : Option (List GV) :=
  match o with
  | .cells cs => some cs
  | .row _ _ xs => xs[i]?
  | .dead => none

theorem ldv_sound {P : Program} {t : TypeId} {cs : List GV} {g : GV} {w : World} {ad : Addr} {Im Bw D : Nat → Prop} {ι : Nat → Hd} (hs : ad.spot = none) (V : Nat → Value)
    (hcell : ∀ (j : Nat) g, cs[j]? = some g → w.cell? ⟨ad.block, ad.off + j, none⟩ = some (V j) ∧ flat (V j) = true ∧ VR Im Bw D ι w g (V j))
    (h : ldv P t cs = some g) : ∃ v, (loadVar t ad).run P w = .ok v w ∧ VR Im Bw D ι w g v := by
  unfold ldv at h
  split at h
  · rename_i ha
    obtain ⟨d, hd⟩ := aggT_und ha
    split at h
    · rename_i hle
      simp only [Option.some.injEq] at h
      subst h
      have hl := run_loadCells (P := P) w ad (P.cellsOf t) V (fun j hj => by
        rw [add_addr hs]
        exact (hcell j (cs[j]'(by omega)) (List.getElem?_eq_getElem (by omega))).1)
      refine ⟨.agg ((List.range (P.cellsOf t)).map V).toArray, ?_, ?_⟩
      · simp [loadVar, run_isA ha, run_szU hd, hl]
      · have hg : ∀ i, i < P.cellsOf t → ((List.range (P.cellsOf t)).map V).toArray.getD i undef = V i := fun i hi => by simp [hi]
        refine .agg _ _ (by simp; omega) (fun i hi => ?_) (fun i g hg' => ?_)
        · have hi' : i < P.cellsOf t := by simpa using hi
          rw [hg i hi']
          exact (hcell i (cs[i]'(by omega)) (List.getElem?_eq_getElem (by omega))).2.1
        · rw [List.getElem?_take] at hg'
          split at hg'
          · rename_i hi
            rw [hg i hi]
            exact (hcell i g hg').2.2
          · cases hg'
    · cases h
  · rename_i ha
    cases cs with
    | nil => cases h
    | cons c cs =>
      simp only [List.head?_cons, Option.some.injEq] at h
      subst h
      obtain ⟨h1, h2, h3⟩ := hcell 0 c (by simp)
      refine ⟨V 0, ?_, h3⟩
      have : (⟨ad.block, ad.off + 0, none⟩ : Addr) = ad := by cases ad; simp_all
      rw [this] at h1
      simp [loadVar, run_isA ha, h1]
  · cases h

theorem OR.at {V Vp : GV → Value → Prop} {w : World} {hd : Hd} {o : GO} (hPV : ∀ g v, Vp g v → V g v) (h : OR V Vp w hd o) {i : Nat} {cs : List GV} (hc : cellsAt o i = some cs) {b : Nat} (hb : hd.A = some b) :
    ∃ W : Nat → Value, ∀ (j : Nat) g, cs[j]? = some g → w.cell? ⟨b, i * hd.sz + j, none⟩ = some (W j) ∧ flat (W j) = true ∧ V g (W j) := by
  cases o with
  | dead => cases hc
  | cells c =>
    simp only [cellsAt, Option.some.injEq] at hc
    subst hc
    obtain ⟨h0, b', arr, t, h1, h2, h3, h4, h5⟩ := h
    obtain rfl : b' = b := Option.some.inj (h1.symm.trans hb)
    refine ⟨fun j => arr.getD j undef, fun j g hg => ?_⟩
    have hj : j < arr.size := by rw [h3]; exact (List.getElem?_eq_some_iff.1 hg).1
    refine ⟨?_, h4 j hj, h5 j g hg⟩
    rw [h0]
    simp [World.cell?, h2, hj]
  | row e sz xs =>
    simp only [cellsAt] at hc
    obtain ⟨h0, h1, hz, l, h2, hf, h3⟩ := h
    refine ⟨fun j => l.getD (i * sz + j) undef, fun j g hg => ?_⟩
    have hi : i < xs.length := (List.getElem?_eq_some_iff.1 hc).1
    have hl := hz cs (List.mem_of_getElem? hc)
    have hj : j < sz := by rw [← hl]; exact (List.getElem?_eq_some_iff.1 hg).1
    have hk : i * sz + j < l.length := by
      rw [h2.1]
      calc i * sz + j < i * sz + sz := by omega
        _ = (i + 1) * sz := by rw [Nat.add_mul, Nat.one_mul]
        _ ≤ xs.length * sz := Nat.mul_le_mul_right _ hi
    have hcl := h2.cells (g := b) (by simp [Hd.val, hb, Value.ownBlock]) (i * sz + j) l[i * sz + j] (List.getElem?_eq_getElem hk)
    have hgd : l.getD (i * sz + j) undef = l[i * sz + j] := by simp [hk]
    refine ⟨?_, ?_, hPV _ _ (h3 i j cs g hc hg)⟩
    · simp only [hgd, h0]
      rw [add_addr rfl] at hcl
      simpa using hcl
    · simp only [hgd]; exact hf _ (List.getElem_mem hk)

/-! Storing. -/

/-- The cells of a value. -/
def gcells : GV → Option (List GV)
  | .any | .tup _ | .lit (.tuple _) => none
  | .agg cs => some cs
  | .lit (.agg vs) => if vs.toList.all flat then some (vs.toList.map .lit) else none
  | g => some [g]

theorem gcells_sound {Im Bw D : Nat → Prop} {ι : Nat → Hd} {w : World} {g : GV} {v : Value} {cs : List GV} (h : VR Im Bw D ι w g v) (hc : gcells g = some cs) :
    v.cells.size = cs.length ∧ (∀ u, u ∈ v.cells.toList → flat u = true) ∧ (∀ (i : Nat) g, cs[i]? = some g → VR Im Bw D ι w g (v.cells.getD i undef)) := by
  have one : ∀ (u : Value), flat u = true → u.cells = #[u] := fun u hu => by cases u <;> simp_all [flat, Value.cells]
  have fin : ∀ (u : Value) (g : GV), flat u = true → VR Im Bw D ι w g u → cs = [g] →
      u.cells.size = cs.length ∧ (∀ x, x ∈ u.cells.toList → flat x = true) ∧ (∀ (i : Nat) g, cs[i]? = some g → VR Im Bw D ι w g (u.cells.getD i undef)) := by
    rintro u g hu hr rfl
    rw [one u hu]
    refine ⟨rfl, by simp [hu], fun i g' hg => ?_⟩
    cases i with
    | zero => simp at hg; subst hg; simpa using hr
    | succ i => simp at hg
  have aggc : ∀ (cs' : List GV) (vs : Array Value), cs' = cs → vs.size = cs'.length → (∀ i, i < vs.size → flat (vs.getD i undef) = true) →
      (∀ (i : Nat) g, cs'[i]? = some g → VR Im Bw D ι w g (vs.getD i undef)) →
      (Value.agg vs).cells.size = cs.length ∧ (∀ u, u ∈ (Value.agg vs).cells.toList → flat u = true) ∧ (∀ (i : Nat) g, cs[i]? = some g → VR Im Bw D ι w g ((Value.agg vs).cells.getD i undef)) := by
    rintro cs' vs rfl hn hf hr
    refine ⟨hn, fun u hu => ?_, hr⟩
    obtain ⟨i, hi, rfl⟩ := List.mem_iff_getElem.1 hu
    have hi' : i < vs.size := by simpa [Value.cells] using hi
    have h1 := hf i hi'
    have h2 : vs.getD i undef = vs[i] := by simp [hi']
    rw [h2] at h1
    simpa [Value.cells] using h1
  cases h with
  | imm hi =>
    cases hi with
    | any => cases hc
    | lit v =>
      cases v <;> simp only [gcells, Option.some.injEq] at hc
      case agg vs =>
        split at hc
        · rename_i hall
          simp only [Option.some.injEq] at hc
          refine aggc _ vs hc (by simp) (fun i hi => ?_) (fun i g hg => ?_)
          · have := List.all_eq_true.1 hall vs[i] (by simp)
            simpa [hi] using this
          · simp only [List.getElem?_map, Option.map_eq_some_iff] at hg
            obtain ⟨u, hu, rfl⟩ := hg
            have : vs.getD i undef = u := by
              rw [Array.getElem?_toList] at hu
              simp [hu]
            rw [this]
            exact .imm (.lit u)
        · cases hc
      case tuple => cases hc
      all_goals exact fin _ _ rfl (.imm (.lit _)) hc.symm
    | zl A => exact fin _ _ rfl (.imm (.zl A)) (by simpa [gcells] using hc.symm)
    | ige n m h h2 => exact fin _ _ rfl (.imm (.ige n m h h2)) (by simpa [gcells] using hc.symm)
    | agg cs' vs hn hf h => exact aggc cs' vs (by simpa [gcells] using hc) hn hf fun i g hg => .imm (h i g hg)
    | tup => cases hc
    | sl bw sz xs ex A c V h1 h2 h3 h4 h5 h6 h7 => exact fin _ _ rfl (.imm (.sl bw sz xs ex A c V h1 h2 h3 h4 h5 h6 h7)) (by simpa [gcells] using hc.symm)
    | iadr bw cs' ad V h1 h2 h3 h4 => exact fin _ _ rfl (.imm (.iadr bw cs' ad V h1 h2 h3 h4)) (by simpa [gcells] using hc.symm)
  | agg cs' vs hn hf h => exact aggc cs' vs (by simpa [gcells] using hc) hn hf h
  | tup => cases hc
  | row id hD => exact fin _ _ rfl (.row id hD) (by simpa [gcells] using hc.symm)
  | sub id lo hi hD A c h1 h2 h3 h4 h5 h6 => exact fin _ _ rfl (.sub id lo hi hD A c h1 h2 h3 h4 h5 h6) (by simpa [gcells] using hc.symm)
  | win id lo hi hD A h1 h2 h3 h4 h5 h6 => exact fin _ _ rfl (.win id lo hi hD A h1 h2 h3 h4 h5 h6) (by simpa [gcells] using hc.symm)
  | adr id i j b hD hb => exact fin _ _ rfl (.adr id i j b hD hb) (by simpa [gcells] using hc.symm)
  | clo f cs' vs hn h => exact fin _ _ rfl (.clo f cs' vs hn h) (by simpa [gcells] using hc.symm)

def setMany (cs : List GV) (j : Nat) : List GV → List GV
  | [] => cs
  | g :: r => setMany (cs.set j g) (j + 1) r

theorem setMany_length (vs : List GV) : ∀ (cs : List GV) (j : Nat), (setMany cs j vs).length = cs.length := by
  induction vs with
  | nil => intro cs j; rfl
  | cons g r ih => intro cs j; simp [setMany, ih]

theorem setMany_get (vs : List GV) : ∀ (cs : List GV) (j k : Nat), j + vs.length ≤ cs.length →
    (setMany cs j vs)[k]? = if j ≤ k ∧ k < j + vs.length then vs[k - j]? else cs[k]? := by
  induction vs with
  | nil => intro cs j k _; simp [setMany]; omega
  | cons g r ih =>
    intro cs j k h
    simp only [List.length_cons] at h
    rw [setMany, ih _ _ _ (by simp; omega)]
    simp only [List.length_cons]
    by_cases h1 : k = j
    · subst h1
      rw [if_neg (by omega), if_pos (by omega), List.getElem?_set_self (by omega)]
      simp
    · rw [List.getElem?_set_ne (by omega)]
      by_cases h2 : j + 1 ≤ k ∧ k < j + 1 + r.length
      · rw [if_pos h2, if_pos (by omega)]
        have : k - j = (k - (j + 1)) + 1 := by omega
        rw [this, List.getElem?_cons_succ]
      · rw [if_neg h2, if_neg (by omega)]

mutual
/-- No object is spoken of. -/
def noid : GV → Bool
  | .row _ | .sub _ _ _ | .win _ _ _ | .adr _ _ _ | .clo _ _ => false
  | .agg cs => noidL cs
  | .tup cs => noidL cs
  | _ => true
def noidL : List GV → Bool
  | [] => true
  | g :: l => noid g && noidL l
end

theorem noidL_get : ∀ {l : List GV} {i : Nat} {g : GV}, noidL l = true → l[i]? = some g → noid g = true
  | [], i, g, h, hg => by simp at hg
  | x :: l, 0, g, h, hg => by simp at hg; subst hg; simp only [noidL, Bool.and_eq_true] at h; exact h.1
  | x :: l, i + 1, g, h, hg => by simp only [noidL, Bool.and_eq_true] at h; exact noidL_get h.2 (by simpa using hg)

section
variable {Im Bw D : Nat → Prop} {ι : Nat → Hd} {w : World}
theorem VR.toVI {g : GV} {v : Value} (h : VR Im Bw D ι w g v) : noid g = true → VI Im Bw w g v := by
  induction h with
  | imm h => exact fun _ => h
  | agg cs vs hn hf _ ih => exact fun hg => .agg cs vs hn hf fun i g hg' => ih i g hg' (noidL_get (by simpa [noid] using hg) hg')
  | tup cs vs hn _ ih => exact fun hg => .tup cs vs hn fun i g hg' => ih i g hg' (noidL_get (by simpa [noid] using hg) hg')
  | row id h => exact fun hg => by simp [noid] at hg
  | sub id lo hi h A c a b c' d e k => exact fun hg => by simp [noid] at hg
  | win id lo hi h A a b c' d e k => exact fun hg => by simp [noid] at hg
  | adr id i j b h hb => exact fun hg => by simp [noid] at hg
  | clo n cs vs hn _ ih => exact fun hg => by simp [noid] at hg

theorem VR.toVP {g : GV} {v : Value} (h : VR Im Bw D ι w g v) (h1 : noid g = true) (h2 : Gh.nobw g = true) : VP Im w g v := (h.toVI h1).toVP h2
end

/-- Nothing borrowed, and no object. -/
def pureL : List GV → Bool
  | [] => true
  | g :: l => noid g && nobw g && pureL l

theorem pureL_get : ∀ {l : List GV} {i : Nat} {g : GV}, pureL l = true → l[i]? = some g → noid g = true ∧ nobw g = true
  | [], i, g, h, hg => by simp at hg
  | x :: l, 0, g, h, hg => by simp at hg; subst hg; simp only [pureL, Bool.and_eq_true] at h; exact h.1
  | x :: l, i + 1, g, h, hg => by simp only [pureL, Bool.and_eq_true] at h; exact pureL_get h.2 (by simpa using hg)

def putAt (o : GO) (i j : Nat) (vs : List GV) : Option GO :=
  match o with
  | .cells cs => if j + vs.length ≤ cs.length then some (.cells (setMany cs j vs)) else none
  | .row e sz xs => match xs[i]? with
    | some x => if j + vs.length ≤ x.length ∧ pureL vs = true then some (.row e sz (xs.set i (setMany x j vs))) else none
    | none => none
  | .dead => none

end Go.Gh
