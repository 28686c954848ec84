import Derived.Test.YtoamjccphppdmaaGhW
import Derived.Below

/-! A row whose law answers true, from a law's contract. -/

namespace Go.Gh
open Go.ChangeShapes Go.RowKit

inductive AC where
  | st (l : List LC)
  | lf (c : LC)

def RdA : AC → GV → Prop
  | .st l, g => ∃ gs, g = .agg gs ∧ RdL l gs
  | .lf c, g => Rd c g

def RdAs : List AC → List GV → Prop
  | [], gs => gs = []
  | c :: l, gs => ∃ g gs', gs = g :: gs' ∧ RdA c g ∧ RdAs l gs'

def acOf (P : Program) (t : TypeId) : Option AC :=
  match P.underlying t with
  | some (.struct _) => (leafs P 8 t).map .st
  | some (.array _ _) => (leafs P 8 t).map .st
  | some .bool => some (.lf .bool)
  | some (.int k) => some (.lf (.int k))
  | some .string => some (.lf .str)
  | some (.slice _) => match leafs P 8 t with
    | some [c] => some (.lf c)
    | _ => none
  | _ => none

def acsOf (P : Program) : List TypeId → Option (List AC)
  | [] => some []
  | t :: ts => (acOf P t).bind fun c => (acsOf P ts).map (c :: ·)

section
variable {H : Type} {enc : TypeId × Value → H} {P : Program} {held : Bool} {W : World} {Bw : Nat → Prop}

theorem arg_of {t : TypeId} {c : AC} (hc : acOf P t = some c) {base : Nat} {v : Value} {d : DataW H} {p : List MemPlace} (hv : Value.okWide P W .any base t v)
    (ht : DataW.Trod enc P W 0 (fun _ => true) held t v d p) (hm : ∀ m, m ∈ d.weights P t → m ≤ reachBytes) : ∃ g, RdA c g ∧ VI (Im0 W) Bw W g v := by
  obtain ⟨n, ht⟩ := ht
  have agg : ∀ l, leafs P 8 t = some l → (∃ cs, v = .agg cs ∧ cs.size = P.cellsOf t ∧ Row.okWide P W .any base t cs) → ∃ g, RdA (.st l) g ∧ VI (Im0 W) Bw W g v := fun l hl hcs => by
    obtain ⟨cs, rfl, hsz, _⟩ := hcs
    have hg := good_of (w := W) (Bw := Bw) 8 t l hl n _ _ ht hm
    obtain ⟨gs, hr, hvi⟩ := hg.ex
    have hlen : cs.size = gs.length := by have := hg.len; simp [Value.cells] at this; rw [hr.length]; exact this
    have hget : ∀ i, cs.toList.getD i undef = cs.getD i undef := fun i => by
      rw [List.getD_eq_getElem?_getD, Array.getElem?_toList, ← Array.getD_eq_getD_getElem?]
    refine ⟨.agg gs, ⟨gs, rfl, hr⟩, .agg gs cs hlen (fun i hi => ?_) fun i g hg' => ?_⟩
    · refine hg.flt _ ?_
      rw [← hget, List.getD_eq_getElem?_getD, List.getElem?_eq_getElem (by simpa using hi)]
      simp [Value.cells]
    · have := hvi i g hg'
      simp only [Value.cells] at this
      rw [hget] at this
      exact this.toVI
  have leaf : ∀ c, leafs P 8 t = some [c] → v.cells.toList = [v] → ∃ g, RdA (.lf c) g ∧ VI (Im0 W) Bw W g v := fun c hl hcs => by
    have hg := good_of (w := W) (Bw := Bw) 8 t [c] hl n _ _ ht hm
    obtain ⟨gs, hr, hvi⟩ := hg.ex
    rw [RdL] at hr
    obtain ⟨g, gs', rfl, hr, hr'⟩ := hr
    have := hvi 0 g rfl
    rw [hcs] at this
    exact ⟨g, hr, VP.toVI this⟩
  have notagg : ∀ u, P.underlying t = some u → (∀ fs, u ≠ .struct fs) → (∀ n e, u ≠ .array n e) → v.cells.toList = [v] := fun u hu h1 h2 => by
    cases v with
    | agg cs =>
      exfalso
      unfold Value.okWide at hv
      rw [hu] at hv
      cases u <;> simp_all [Cell.okWide, Cell.ok]
    | _ => rfl
  unfold acOf at hc
  split at hc
  · rename_i fs hu
    obtain ⟨l, hl, rfl⟩ := Option.map_eq_some_iff.1 hc
    unfold Value.okWide at hv
    rw [hu] at hv
    exact agg l hl hv
  · rename_i k e hu
    obtain ⟨l, hl, rfl⟩ := Option.map_eq_some_iff.1 hc
    unfold Value.okWide at hv
    rw [hu] at hv
    exact agg l hl hv
  · rename_i hu
    cases hc
    exact leaf _ (by simp [leafs, hu]) (notagg _ hu (by simp) (by simp))
  · rename_i k hu
    cases hc
    exact leaf _ (by simp [leafs, hu]) (notagg _ hu (by simp) (by simp))
  · rename_i hu
    cases hc
    exact leaf _ (by simp [leafs, hu]) (notagg _ hu (by simp) (by simp))
  · rename_i e hu
    split at hc
    · rename_i c' hl
      cases hc
      exact leaf _ hl (notagg _ hu (by simp) (by simp))
    · cases hc
  · cases hc

theorem args_of : ∀ {ts : List TypeId} {cs : List AC}, acsOf P ts = some cs → ∀ {base : Nat} {vs : List Value} {ds : List (DataW H)} {p : List MemPlace},
    (∀ (j : Nat) t v, ts[j]? = some t → vs[j]? = some v → Value.okWide P W .any base t v) → DataW.TrodAll enc P W 0 (fun _ => true) held ts vs ds p →
    (∀ m, m ∈ DataW.weightsEach P ts ds → m ≤ reachBytes) →
    ∃ gs, RdAs cs gs ∧ vs.length = gs.length ∧ ∀ (i : Nat) g, gs[i]? = some g → VI (Im0 W) Bw W g (vs.getD i undef)
  | [], cs, h, base, vs, ds, p, _, ht, _ => by
    cases h
    obtain ⟨rfl, rfl, rfl⟩ := trodAll_nil ht
    exact ⟨[], rfl, rfl, fun i g h => by simp at h⟩
  | t :: ts, cs, h, base, vs, ds, p, hv, ht, hm => by
    simp only [acsOf] at h
    obtain ⟨c, hc, h⟩ := Option.bind_eq_some_iff.1 h
    obtain ⟨cs', hcs, rfl⟩ := Option.map_eq_some_iff.1 h
    obtain ⟨v, vs', d, ds', p0, q0, rfl, rfl, rfl, h0, r0⟩ := trodAll_cons ht
    rw [DataW.weightsEach] at hm
    obtain ⟨g, hg, hvi⟩ := arg_of (Bw := Bw) hc (hv 0 t v rfl rfl) h0 fun m h => hm m (List.mem_append_left _ h)
    obtain ⟨gs, hgs, hl, hvis⟩ := args_of hcs (fun j t v ht hv' => hv (j + 1) t v (by simpa using ht) (by simpa using hv')) r0 fun m h => hm m (List.mem_append_right _ h)
    refine ⟨g :: gs, ⟨g, gs, rfl, hg, hgs⟩, by simp [hl], fun i g' hg' => ?_⟩
    cases i with
    | zero => simp at hg'; subst hg'; exact hvi
    | succ i => simpa using hvis i g' (by simpa using hg')

theorem trodAll_back {W' : World} (hl : laidOutB P = true) (hb : Below W.heap.size W W') :
    ∀ {ts : List TypeId} {vs : List Value} {ds : List (DataW H)} {p : List MemPlace}, (∀ t, t ∈ ts → P.readableRec t = true ∧ t < P.types.size) → DataW.TrodAll enc P W 0 (fun _ => true) true ts vs ds p →
    DataW.TrodAll enc P W' 0 (fun b => decide (b < W.heap.size)) true ts vs ds p
  | [], vs, ds, p, _, ht => by
    obtain ⟨rfl, rfl, rfl⟩ := trodAll_nil ht
    exact trodAll_mk0
  | t :: ts, vs, ds, p, hr, ht => by
    have hlt := ht.lt
    obtain ⟨v, vs', d, ds', p0, q0, rfl, rfl, rfl, h0, r0⟩ := trodAll_cons ht
    obtain ⟨h1, h2⟩ := hr t (List.mem_cons_self ..)
    exact trodAll_cons_mk (Below.trod hl h1 h2 h0 hb fun x hx => hlt x (List.mem_append_left _ hx)) (trodAll_back hl hb (fun t h => hr t (List.mem_cons_of_mem _ h)) r0)

end

/-- THE ROW, AT THE CALL: what the law's contract gives. -/
theorem lift {C : Checked} {os : Os} (started : os.Started) {H : Type} {enc : TypeId × Value → H} {f : FuncId} {fn : Func} {s : ChangeSpec} {acs : List AC} {tb : TypeId}
    (own : ownKnob C.prog.godebug = none) (hinit : C.prog.inits.idxOf? f = none) (hfn : C.prog.funcs[f]? = some fn)
    (witness : ∃ (w : World) (tape : Tape) (i : Input), w.os = os ∧ (w.forCall tape i).Shaped C.prog ∧ i.vars = [] ∧ Input.okWide C.prog (w.forCall tape i) .any w.heap.size f i ∧
      s.pre6 enc C.prog fn [] false (w.forCall tape i).memory i.args ∧ Assume.holds {} C.prog (lone (Frame.enter C.prog f i.args .normal) [] (w.forCall tape i)))
    (hacs : acsOf C.prog fn.params.toList = some acs) (hlaid : laidOutB C.prog = true) (hreadB : fn.params.toList.all (fun t => C.prog.readableRec t && decide (t < C.prog.types.size)) = true)
    (hvars : s.vars = []) (hspec : ∀ ds : List (DataW H), ds.length = acs.length → s.fn H ds = { results := [.lit (.bool true)], args := ds })
    (hres : fn.resultTypes = #[tb]) (htb : C.prog.underlying tb = some .bool)
    (main : ∀ gs, RdAs acs gs → ∃ M', FS C.prog f gs [] (.lit (.bool true)) M') :
    ReturnsInHanded {} C os f .any (s.pre6 enc C.prog fn [] false) (s.post enc C.prog fn false true false false) := by
  have hread : ∀ t, t ∈ fn.params.toList → C.prog.readableRec t = true ∧ t < C.prog.types.size := fun t ht => by
    have := List.all_eq_true.1 hreadB t ht
    simpa using this
  refine returnsInHanded_of_change_sized (C := C) own started hinit hfn witness ?_
  intro W base args ds gs before hval hW hcnd hsz _
  have hW' := hW
  obtain ⟨p, q, hA, hV, rfl, hfz, hnd⟩ := hW
  rw [hvars] at hV
  obtain ⟨rfl, rfl⟩ := trodVars_none hV
  have hsz2 : ∀ m, m ∈ DataW.weightsEach C.prog fn.params.toList ds → m ≤ reachBytes := fun m hm => by
    have h1 := List.all_eq_true.1 hsz m
    have e : s.plain.varTypes C.prog = [] := by simp [ChangeSpec.plain, DataSpec.varTypes, hvars]
    rw [e, List.append_nil, List.append_nil] at h1
    simpa using h1 hm
  obtain ⟨xs, hR, hlen, hvi⟩ := args_of (Bw := fun _ => False) hacs (fun j t v ht hv => hval j t v (by simpa using ht) (by simpa using hv)) hA hsz2
  obtain ⟨M', hFS⟩ := main xs hR
  have hdead : ∀ id, getM [] id ≠ .dead → False := fun id h => h rfl
  have hSR : SR ⟨Im0 W, fun _ => False, fun _ => False⟩ (· < ([] : List GO).length) (fun _ => ⟨none, 0, 0, 0⟩) (getM []) W :=
    ⟨fun id => by simp [getM, OR], fun id h => (hdead id h).elim, fun i j b h => (hdead i h).elim, fun b h => by
      rcases h with h | h | h
      · exact h
      · exact h.elim
      · exact h.elim, fun id b h => (hdead id h).elim, fun b => ⟨fun _ h => h, fun _ h => h, fun _ h => h⟩⟩
  refine (hFS.run _ _ W args hSR (by simpa using hlen) fun i g hg => .imm ?_).mono fun e W' h => ?_
  · have := hvi i g hg
    rwa [List.getD_eq_getElem?_getD, Array.getElem?_toList, ← Array.getD_eq_getD_getElem?] at this
  · obtain ⟨v, Im', ι', rfl, hk, _, _, _, hv⟩ := h
    have hv := hv.lit_inv
    subst hv
    have hb : Below W.heap.size W W' := ⟨hk.os, hk.tape, hk.output, hk.size, fun k hk' => hk.block k (.inl hk')⟩
    have hdl : ds.length = acs.length := by
      have h1 : ∀ {ts : List TypeId} {vs : List Value} {ds : List (DataW H)} {p : List MemPlace}, DataW.TrodAll enc C.prog W 0 (fun _ => true) true ts vs ds p → ds.length = ts.length := by
        intro ts
        induction ts with
        | nil => intro vs ds p h; obtain ⟨_, rfl, _⟩ := trodAll_nil h; rfl
        | cons t ts ih => intro vs ds p h; obtain ⟨_, _, d, ds', _, _, _, rfl, _, _, r0⟩ := trodAll_cons h; simp [ih r0]
      have h2 : ∀ {ts : List TypeId} {cs : List AC}, acsOf C.prog ts = some cs → cs.length = ts.length := by
        intro ts
        induction ts with
        | nil => intro cs h; cases h; rfl
        | cons t ts ih =>
          intro cs h
          simp only [acsOf] at h
          obtain ⟨c, hc, h⟩ := Option.bind_eq_some_iff.1 h
          obtain ⟨cs', hcs, rfl⟩ := Option.map_eq_some_iff.1 h
          simp [ih hcs]
      rw [h1 hA, h2 hacs]
    have hsp := hspec ds hdl
    refine ⟨_, rfl, ds, [], _, [], p, [], hW', ?_, ?_, ?_, hb.frame _, fun h => by cases h⟩
    · rw [List.append_nil, hsp, hres]
      exact trodAll_mk1 (shut_bool htb _)
    · rw [List.append_nil, hsp]
      exact trodAll_back hlaid hb hread hA
    · rw [List.append_nil, hsp, hvars]
      rfl

end Go.Gh
