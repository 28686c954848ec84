import Derived.Test.YtoamjccphppdmaaGhZb
import Derived.Laws.Slices
import Derived.Laws.BytesString
import Derived.Laws.OwnMore

/-! A nil slice taken as a row; a row that is read alone from now on; parts of slices; bytes as a string; rows made. -/

namespace Go.Gh
variable {P : Program}

theorem SL.set {Γ : Ctx} {D : Nat → Prop} {ι : Nat → Hd} {w : World} {σ : List GV} {a : Act} (h : SL Γ D ι w σ a) (t : Nat) {g : GV} (hv : VR Γ.Im Γ.Bw D ι w g (a.tmps.getD t undef)) : SL Γ D ι w (σ.set t g) a := by
  refine ⟨by rw [List.length_set]; exact h.1, fun t' g' hg => ?_⟩
  by_cases e : t = t'
  · subst e
    by_cases ht : t < σ.length
    · rw [List.getElem?_set_self ht] at hg
      cases hg; exact hv
    · rw [List.getElem?_eq_none (by rw [List.length_set]; omega)] at hg; cases hg
  · rw [List.getElem?_set_ne e] at hg
    exact h.2 t' g' hg

theorem getM_append (M : List GO) (o : GO) (i : Nat) : getM (M ++ [o]) i = if i = M.length then o else getM M i := by
  unfold getM
  rw [List.getD_eq_getElem?_getD, List.getD_eq_getElem?_getD]
  by_cases h : i < M.length
  · rw [List.getElem?_append_left h, if_neg (by omega)]
  · rw [List.getElem?_append_right (by omega)]
    by_cases e : i = M.length
    · subst e; simp
    · rw [if_neg e, List.getElem?_eq_none (by simp; omega), List.getElem?_eq_none (by omega)]

theorem adopt_SR {Γ : Ctx} {ι : Nat → Hd} {M : List GO} {w : World} (hS : SR Γ (· < M.length) ι (getM M) w) (e sz : Nat) :
    SR Γ (· < (M ++ [GO.row e sz []]).length) (fun i => if i = M.length then ⟨none, sz, 0, 0⟩ else ι i) (getM (M ++ [GO.row e sz []])) w := by
  have hlen : (M ++ [GO.row e sz []]).length = M.length + 1 := by simp
  refine hS.new (nb := M.length) (o := .row e sz []) (by omega) (fun i => by rw [hlen]; omega) (fun i hi => if_neg (by omega)) (fun i hi => .inr ?_) ?_ (Nat.le_refl _) (fun _ _ _ _ => rfl) (fun b hb => by simp at hb) ?_
  · rw [getM_append, if_neg hi]
  · rw [getM_append, if_pos rfl]
  · rw [if_pos rfl]
    exact ⟨rfl, rfl, fun x h => by simp at h, [], World.ownsRow_nil w 0 e sz, fun v h => by simp at h, fun i j x g h => by simp at h⟩

/-- A nil slice, taken as a row. -/
theorem CS.adopt {m : Nat} {c : Code} {σ : List GV} {M : List GO} {R : Exit → List GV → List GO → Prop} (e sz t : Nat) (hσ : nthG σ t = some (.lit (.slice none 0 0)))
    (h : CS P m c (σ.set t (.row M.length)) (M ++ [.row e sz []]) R) : CS P m c σ M R := by
  intro Γ ι w a Q hm hS hL hd hk
  have hlen : (M ++ [GO.row e sz []]).length = M.length + 1 := by simp
  have hS' := adopt_SR hS e sz
  have hv := (hL.2 t _ (nthG_ok hσ)).lit_inv
  have hL' : SL Γ (· < (M ++ [GO.row e sz []]).length) (fun i => if i = M.length then ⟨none, sz, 0, 0⟩ else ι i) w (σ.set t (.row M.length)) a := by
    refine (hL.mono (Γ' := Γ) (fun _ h => h) (fun _ h => h) (fun i hi => by show i < _; rw [hlen]; have : i < M.length := hi; omega) (fun i hi => if_neg (by have : i < M.length := hi; omega)) (fun _ _ => rfl)).set t ?_
    rw [hv]
    have := VR.row (Im := Γ.Im) (Bw := Γ.Bw) (D := (· < (M ++ [GO.row e sz []]).length)) (ι := fun i => if i = M.length then ⟨none, sz, 0, 0⟩ else ι i) (w := w) M.length (by show M.length < _; omega)
    simpa using this
  refine h Γ _ w a Q (by omega) hS' hL' hd fun e' σ' M' Im' ι' w' a' h0 h1 h2 h3 h4 h5 h6 h7 => ?_
  exact hk e' σ' M' Im' ι' w' a' h0 h1 h2 (fun i hi => by rw [h3 i hi, if_neg (by omega)]) h4 h5 h6 h7

theorem getM_set (M : List GO) (id : Nat) (hid : id < M.length) (i : Nat) : getM (M.set id .dead) i = if i = id then .dead else getM M i := by
  unfold getM
  rw [List.getD_eq_getElem?_getD, List.getD_eq_getElem?_getD, List.getElem?_set]
  by_cases e : id = i
  · subst e; rw [if_pos rfl, if_pos rfl, if_pos hid]; rfl
  · rw [if_neg e, if_neg (Ne.symm e)]

theorem frz_VI {Γ : Ctx} {D : Nat → Prop} {ι : Nat → Hd} {M : Nat → GO} {w : World} (hS : SR Γ D ι M w) {id e sz : Nat} {xs : List (List GV)} (hM : M id = .row e sz xs) {u : Value}
    (hV : VR Γ.Im Γ.Bw D ι w (.row id) u) : VI (fun b => Γ.Im b ∨ (ι id).A = some b) Γ.Bw w (.sl false sz xs []) u := by
  have ho := hS.obj id
  rw [hM] at ho
  obtain ⟨A, c, news, hs⟩ := src_row hV ho
  obtain ⟨hD, hu⟩ := hV.row_inv
  obtain ⟨_, h1, _, cs, _, _, _, h2⟩ := row_cases ho
  have hval := hs.val
  rw [hu, Hd.val] at hval
  simp only [Value.slice.injEq] at hval
  obtain ⟨hA, _, hc'⟩ := hval
  refine lend_src false hs (fun a ha => ?_) ?_ (fun _ => .inl) fun a ha _ => ?_
  · rw [← hA] at ha
    cases hA' : (ι id).A with
    | none => simp [hA'] at ha
    | some b => simp [hA'] at ha; subst ha; rfl
  · rcases h2 with ⟨_, h3, h4⟩ | ⟨b, _, h3, _⟩ <;> omega
  · rw [← hA] at ha
    cases hA' : (ι id).A with
    | none => simp [hA'] at ha
    | some b => simp [hA'] at ha; subst ha; exact .inr rfl

theorem frz_SR {Γ : Ctx} {ι : Nat → Hd} {M : List GO} {w : World} (hS : SR Γ (· < M.length) ι (getM M) w) {id e sz : Nat} {xs : List (List GV)} (hM : getM M id = .row e sz xs) :
    SR ⟨fun b => Γ.Im b ∨ (ι id).A = some b, Γ.Bw, Γ.Fz⟩ (· < (M.set id .dead).length) ι (getM (M.set id .dead)) w := by
  have hid : id < M.length := hS.liv id (by rw [hM]; simp)
  rw [List.length_set]
  exact hS.freeze (by rw [hM]; simp) (getM_set M id hid)

theorem keep_frz {Γ : Ctx} {Im' : Nat → Prop} {w w' : World} (hI : ∀ b, Γ.Im b → Im' b) (h : Keep ⟨Im', Γ.Bw, Γ.Fz⟩ w w') : Keep Γ w w' :=
  h.weaken fun b hb => by
    rcases hb with h | h | h
    · exact .inl (hI b h)
    · exact .inr (.inl h)
    · exact .inr (.inr h)

/-- A row that is read alone from now on. -/
theorem CS.frz {m : Nat} {c : Code} {σ : List GV} {M : List GO} {R : Exit → List GV → List GO → Prop} (t : Nat) {id e sz : Nat} {xs : List (List GV)} (hσ : nthG σ t = some (.row id)) (hM : getM M id = .row e sz xs)
    (h : CS P m c (σ.set t (.sl false sz xs [])) (M.set id .dead) R) : CS P m c σ M R := by
  intro Γ ι w a Q hm hS hL hd hk
  have hid : id < M.length := hS.liv id (by rw [hM]; simp)
  have hL' : SL ⟨fun b => Γ.Im b ∨ (ι id).A = some b, Γ.Bw, Γ.Fz⟩ (· < (M.set id .dead).length) ι w (σ.set t (.sl false sz xs [])) a :=
    (hL.mono (Γ' := ⟨fun b => Γ.Im b ∨ (ι id).A = some b, Γ.Bw, Γ.Fz⟩) (fun _ => .inl) (fun _ h => h) (fun i hi => by show i < _; rw [List.length_set]; exact hi) (fun _ _ => rfl) (fun _ _ => rfl)).set t (.imm (frz_VI hS hM (hL.2 t _ (nthG_ok hσ))))
  refine h _ ι w a Q (by rw [List.length_set]; exact hm) (frz_SR hS hM) hL' hd fun e' σ' M' Im' ι' w' a' h0 h1 h2 h3 h4 h5 h6 h7 => ?_
  exact hk e' σ' M' Im' ι' w' a' h0 (keep_frz (Im' := fun b => Γ.Im b ∨ (ι id).A = some b) (fun _ => .inl) h1) (fun b hb => h2 b (.inl hb)) h3 h4 h5 h6 h7

/-- A function that makes a row: read alone from now on. -/
theorem FS.frz {f : FuncId} {args : List GV} {e sz : Nat} {xs : List (List GV)} (h : FS P f args [] (.row 0) [.row e sz xs]) : FS P f args [] (.sl false sz xs []) [] := by
  constructor
  intro Γ ι w as hS hsz hV
  refine (h.run Γ ι w as hS hsz hV).mono fun e' w' hw => ?_
  obtain ⟨v, Im', ι', he, h1, h2, h3, h4, h5⟩ := hw
  have h6 := frz_VI h4 (id := 0) rfl h5
  refine ⟨v, fun b => Im' b ∨ (ι' 0).A = some b, ι', he, h1, fun b hb => .inl (h2 b hb), fun i hi => by simp at hi, ?_, .imm h6⟩
  have h7 := frz_SR (M := [.row e sz xs]) h4 (id := 0) rfl
  refine ⟨fun id => by simp [getM, OR], fun id hid => (hid rfl).elim, fun i j b hi => (hi rfl).elim, h7.lt, fun id b hid => (hid rfl).elim, h7.dj⟩

/-! Parts of slices. -/

theorem run_slice_g {w : World} {t e sz : Nat} (ht : P.underlying t = some (.slice e)) (hsz : (sizeOf e).run P w = .ok sz w) {a : Option Addr} {len cap : Nat} {lo hi mx : Option Value} {l h m : Nat}
    (hl : (lo = none ∧ l = 0) ∨ ∃ k, lo = some (.int k l)) (hh : (hi = none ∧ h = len ∧ mx = none) ∨ ∃ k, hi = some (.int k h)) (hm : (mx = none ∧ m = cap) ∨ ∃ k, mx = some (.int k m)) (h1 : l ≤ h) (h2 : h ≤ m) (h3 : m ≤ cap) :
    (Instr.sliceAt t (.slice a len cap) lo hi mx).run P w = .ok (.slice (if m = l then a else a.map (·.add (l * sz))) (h - l) (m - l)) w := by
  have n1 : ∀ x : Nat, (0 : Int) ≤ (x : Int) := fun x => by omega
  have n2 : ∀ {x y : Nat}, x ≤ y → (x : Int) ≤ (y : Int) := fun h => by omega
  have hat : (Instr.sliceAt t (.slice a len cap) lo hi mx).run P w = (Instr.slice t (.slice a len cap) lo hi mx).run P w := by
    simp [Instr.sliceAt, run_underlying ht]
  rw [hat]
  rcases hm with ⟨rfl, rfl⟩ | ⟨km, rfl⟩ <;> rcases hh with ⟨rfl, rfl, hx⟩ | ⟨kh, rfl⟩ <;> rcases hl with ⟨rfl, rfl⟩ | ⟨kl, rfl⟩ <;>
    first
    | (cases hx; done)
    | simp [Instr.slice, run_underlying ht, Instr.sliceBounds, run_sliceBound, hsz, n1, n2 h1, n2 h2, n2 h3, n2 (Nat.le_trans h1 h2), n2 (Nat.le_trans h2 h3), Int.toNat_natCast]

def bndG (ρ : Rho) (d : Int) : Option Operand → Option Int
  | none => some d
  | some x => match ρ x with
    | .lit (.int _ n) => some n
    | _ => none

section
variable {o : Oper} {ρ : Rho} {nb : Nat} {M0 : Nat → GO} {Im Bw D : Nat → Prop} {ι : Nat → Hd} {w : World}

theorem bndG_sound {ac : Act} {d : Int} {x : Option Operand} {n : Int} (h : bndG ρ d x = some n) (h0 : 0 ≤ n) (hV : ∀ y, x = some y → VR Im Bw D ι w (ρ y) (ac.eval y)) :
    (x.map ac.eval = none ∧ x = none ∧ n = d) ∨ ∃ k, x.map ac.eval = some (.int k (n.toNat : Int)) := by
  cases x with
  | none =>
    simp only [bndG, Option.some.injEq] at h
    exact .inl ⟨rfl, rfl, h.symm⟩
  | some y =>
    right
    simp only [bndG] at h
    split at h
    · rename_i k m hy
      cases h
      have := (hy ▸ hV y rfl).lit_inv
      exact ⟨k, by simp [this, Int.toNat_of_nonneg h0]⟩
    · cases h

/-- The third bound. -/
def mxG (ρ : Rho) (h : Int) (n : Nat) : Option Operand → Prop
  | none => True
  | some x => match ρ x with
    | .lit (.int _ m) => h ≤ m ∧ m ≤ n
    | _ => False

theorem mxG_sound {ac : Act} {h : Int} {n cap : Nat} {x : Option Operand} (hm : mxG ρ h n x) (h0 : 0 ≤ h) (hh : h ≤ n) (hn : n ≤ cap) (hV : ∀ y, x = some y → VR Im Bw D ι w (ρ y) (ac.eval y)) :
    ∃ m : Nat, ((x.map ac.eval = none ∧ m = cap) ∨ ∃ k, x.map ac.eval = some (.int k (m : Int))) ∧ h.toNat ≤ m ∧ m ≤ cap := by
  cases x with
  | none => exact ⟨cap, .inl ⟨rfl, rfl⟩, by omega, Nat.le_refl _⟩
  | some y =>
    simp only [mxG] at hm
    split at hm
    · rename_i k m hy
      have := (hy ▸ hV y rfl).lit_inv
      exact ⟨m.toNat, .inr ⟨k, by simp [this, Int.toNat_of_nonneg (Int.le_trans h0 hm.1)]⟩, by omega, by omega⟩
    · exact hm.elim

theorem run_szC {e sz : Nat} (hsz : P.cellsOf e = sz) (hpos : sz ≠ 0) : (sizeOf e).run P w = .ok sz w := by
  obtain ⟨i, hi⟩ := cellsOf_info (P := P) (t := e) (by omega)
  rw [run_sz hi, hsz]

theorem slice_ops {t : TypeId} {x : Operand} {lo hi mx : Option Operand} (ho : o.op = .slice t x lo hi mx) :
    x ∈ o.op.operands ∧ (∀ y, lo = some y → y ∈ o.op.operands) ∧ (∀ y, hi = some y → y ∈ o.op.operands) ∧ (∀ y, mx = some y → y ∈ o.op.operands) := by
  rw [ho]
  simp only [Op.operands, Array.mem_append]
  refine ⟨by simp, fun y h => by subst h; simp, fun y h => by subst h; simp, fun y h => by subst h; simp⟩

/-- What is cut, whatever it is: the value. -/
theorem run_cut {t e sz : Nat} {x : Operand} {lo hi mx : Option Operand} {ac : Act} (ho : o.op = .slice t x lo hi mx) (ht : P.underlying t = some (.slice e)) (hsz : P.cellsOf e = sz) (hpos : sz ≠ 0)
    (hV : ∀ x, x ∈ o.op.operands → VR Im Bw D ι w (ρ x) (ac.eval x)) {a : Option Addr} {len cap : Nat} (hx : ac.eval x = .slice a len cap) {n : Nat} (hn : n ≤ cap) {l h : Int}
    (hl : bndG ρ 0 lo = some l) (hh : bndG ρ len hi = some h) (hm : mxG ρ h n mx) (hhm : hi = none → mx = none) (h0 : 0 ≤ l) (h1 : l ≤ h) (h2 : h ≤ n) :
    ∃ m : Nat, h.toNat ≤ m ∧ m ≤ cap ∧ (mx = none → m = cap) ∧ (∀ y k q, mx = some y → ρ y = .lit (.int k q) → (m : Int) = q) ∧
      (execOp ac.eval o).run P w = .ok (.value (.slice (if m = l.toNat then a else a.map (·.add (l.toNat * sz))) (h.toNat - l.toNat) (m - l.toNat))) w := by
  obtain ⟨_, o1, o2, o3⟩ := slice_ops ho
  have hh0 : 0 ≤ h := Int.le_trans h0 h1
  obtain ⟨m, m1, m2, m3⟩ := mxG_sound (cap := cap) hm hh0 h2 hn fun y e => hV y (o3 y e)
  refine ⟨m, m2, m3, fun e => ?_, fun y k q e hq => ?_, ?_⟩
  · subst e
    rcases m1 with ⟨_, e⟩ | ⟨k, e⟩
    · exact e
    · simp at e
  · subst e
    have := (hq ▸ hV y (o3 y rfl)).lit_inv
    rcases m1 with ⟨e, _⟩ | ⟨k', e⟩
    · simp at e
    · simp only [Option.map_some, this, Option.some.injEq, Value.int.injEq] at e
      exact e.2.symm
  · have b1 := bndG_sound (ac := ac) hl h0 fun y e => hV y (o1 y e)
    have b2 := bndG_sound (ac := ac) hh hh0 fun y e => hV y (o2 y e)
    have := run_slice_g (P := P) (w := w) (t := t) (e := e) (sz := sz) (a := a) (len := len) (cap := cap) (lo := lo.map ac.eval) (hi := hi.map ac.eval) (mx := mx.map ac.eval) (l := l.toNat) (h := h.toNat) (m := m) ht (run_szC hsz hpos)
      (b1.imp (fun ⟨a, _, b⟩ => ⟨a, by omega⟩) id) (b2.imp (fun ⟨a, b, c⟩ => ⟨a, by omega, by rw [hhm b]; rfl⟩) id) m1 (by omega) m2 m3
    simp only [execOp, ho, hx, Sem.run_bind, this, Result.andThen_ok, Sem.run_pure]

theorem os_cut_sl {t e sz : Nat} {x : Operand} {lo hi mx : Option Operand} {bw : Bool} {xs ex : List (List GV)} {l h : Int} (ho : o.op = .slice t x lo hi mx) (ht : P.underlying t = some (.slice e)) (hsz : P.cellsOf e = sz) (hpos : sz ≠ 0)
    (hx : ρ x = .sl bw sz xs ex) (hl : bndG ρ 0 lo = some l) (hh : bndG ρ xs.length hi = some h) (hm : mxG ρ h xs.length mx) (hhm : hi = none → mx = none) (h0 : 0 ≤ l) (h1 : l ≤ h) (h2 : h ≤ xs.length) :
    OpS P o ρ nb M0 [] (.sl bw sz ((xs.take h.toNat).drop l.toNat) []) [] [] := by
  refine .quiet fun Γ D ι M w ac hS hV hM => ?_
  obtain ⟨A, c, V, e1, hcap, hA, hs, hlen, hcell⟩ := (hx ▸ hV x (slice_ops ho).1).sl_inv
  obtain ⟨m, m1, m2, _, _, hr⟩ := run_cut ho ht hsz hpos hV e1 (n := xs.length) (by omega) hl hh hm hhm h0 h1 h2
  have hlen' : ((xs.take h.toNat).drop l.toNat).length = h.toNat - l.toNat := by simp; omega
  have hin : ∀ (i : Nat) (x : List GV), ((xs.take h.toNat).drop l.toNat ++ [])[i]? = some x → (xs ++ ex)[l.toNat + i]? = some x ∧ l.toNat + i < h.toNat := fun i x hi => by
    rw [List.append_nil, List.getElem?_drop, List.getElem?_take] at hi
    split at hi
    · rename_i hlt
      exact ⟨by rw [List.getElem?_append_left (by omega)]; exact hi, hlt⟩
    · cases hi
  refine ⟨_, ?_, hr⟩
  rw [← hlen']
  refine .imm (.sl bw sz _ [] _ _ (fun i j => V (l.toNat + i) j) (by simp; omega) (fun hn => ?_) (fun ad ha => ?_) (fun x hx => ?_) (fun i j x g hi hj => ?_) (fun i j x g hi hj => ?_) (fun i j x g hi hj => ?_))
  · split at hn
    · have := hA hn; omega
    · have := hA (by cases A <;> simp_all); omega
  · split at ha
    · rcases hs ad ha with h | h
      · exact .inl h
      · right
        have : xs = [] := by cases xs <;> simp_all
        simp [this]
    · cases hA' : A with
      | none => simp [hA'] at ha
      | some ad' =>
        rw [hA'] at ha
        simp only [Option.map_some, Option.some.injEq] at ha
        rcases hs ad' hA' with h | h
        · left; rw [← ha, add_addr h]
        · right
          have : xs = [] := by cases xs <;> simp_all
          simp [this]
  · rw [List.append_nil] at hx
    exact hlen x (List.mem_append_left _ (List.mem_of_mem_take (List.mem_of_mem_drop hx)))
  · obtain ⟨h3, h4⟩ := hin i x hi
    obtain ⟨ad, h5, h6, h7, _⟩ := hcell _ j x g h3 hj
    have hsp : ad.spot = none := (hs ad h5).resolve_right fun h => by rw [h] at h3; simp at h3
    have hml : m ≠ l.toNat := by omega
    refine ⟨⟨ad.block, ad.off + l.toNat * sz, none⟩, by rw [if_neg hml, h5]; simp [add_addr hsp], h6, ?_⟩
    rw [← h7, Nat.add_mul]
    congr 2
    show ad.off + l.toNat * sz + (i * sz + j) = ad.off + (l.toNat * sz + i * sz + j)
    omega
  · obtain ⟨h3, h4⟩ := hin i x hi
    obtain ⟨ad, h5, h6, h7, h8, _⟩ := hcell _ j x g h3 hj
    exact h8
  · obtain ⟨h3, h4⟩ := hin i x hi
    obtain ⟨ad, h5, h6, h7, h8, h9⟩ := hcell _ j x g h3 hj
    exact h9

/-- .. up into the spare room. -/
theorem os_cut_ex {t e sz : Nat} {x : Operand} {lo hi : Option Operand} {bw : Bool} {xs ex : List (List GV)} {l h : Int} (ho : o.op = .slice t x lo hi none) (ht : P.underlying t = some (.slice e)) (hsz : P.cellsOf e = sz) (hpos : sz ≠ 0)
    (hx : ρ x = .sl bw sz xs ex) (hl : bndG ρ 0 lo = some l) (hh : bndG ρ xs.length hi = some h) (h0 : 0 ≤ l) (h1 : l ≤ h) (h2 : h ≤ (xs ++ ex).length) :
    OpS P o ρ nb M0 [] (.sl bw sz (((xs ++ ex).take h.toNat).drop l.toNat) ((xs ++ ex).drop h.toNat)) [] [] := by
  refine .quiet fun Γ D ι M w ac hS hV hM => ?_
  obtain ⟨A, c, V, e1, hcap, hA, hs, hlen, hcell⟩ := (hx ▸ hV x (slice_ops ho).1).sl_inv
  rw [List.length_append] at h2
  obtain ⟨m, m1, m2, m3, _, hr⟩ := run_cut ho ht hsz hpos hV e1 (n := xs.length + ex.length) hcap.1 hl hh trivial (fun _ => rfl) h0 h1 (by exact_mod_cast h2)
  have hmc := m3 rfl
  have hlen' : (((xs ++ ex).take h.toNat).drop l.toNat).length = h.toNat - l.toNat := by simp; omega
  have hin : ∀ (i : Nat) (x : List GV), (((xs ++ ex).take h.toNat).drop l.toNat ++ (xs ++ ex).drop h.toNat)[i]? = some x → (xs ++ ex)[l.toNat + i]? = some x ∧ l.toNat + i < xs.length + ex.length := fun i x hi => by
    rw [List.getElem?_append, hlen', List.getElem?_drop, List.getElem?_take, List.getElem?_drop] at hi
    split at hi
    · split at hi
      · exact ⟨hi, by omega⟩
      · cases hi
    · have : h.toNat + (i - (h.toNat - l.toNat)) = l.toNat + i := by omega
      rw [this] at hi
      exact ⟨hi, by have := (List.getElem?_eq_some_iff.1 hi).1; rwa [List.length_append] at this⟩
  refine ⟨_, ?_, hr⟩
  rw [← hlen']
  refine .imm (.sl bw sz _ _ _ _ (fun i j => V (l.toNat + i) j) (by simp; omega) (fun hn => ?_) (fun ad ha => ?_) (fun x hx => ?_) (fun i j x g hi hj => ?_) (fun i j x g hi hj => ?_) (fun i j x g hi hj => ?_))
  · split at hn
    · have := hA hn; omega
    · have := hA (by cases A <;> simp_all); omega
  · have hnil : xs ++ ex = [] → ((xs ++ ex).take h.toNat).drop l.toNat ++ (xs ++ ex).drop h.toNat = [] := fun h => by rw [h]; simp
    split at ha
    · exact (hs ad ha).imp id hnil
    · cases hA' : A with
      | none => simp [hA'] at ha
      | some ad' =>
        rw [hA'] at ha
        simp only [Option.map_some, Option.some.injEq] at ha
        refine (hs ad' hA').imp (fun h => ?_) hnil
        rw [← ha, add_addr h]
  · rcases List.mem_append.1 hx with h | h
    · exact hlen x (List.mem_of_mem_take (List.mem_of_mem_drop h))
    · exact hlen x (List.mem_of_mem_drop h)
  · obtain ⟨h3, h4⟩ := hin i x hi
    obtain ⟨ad, h5, h6, h7, _⟩ := hcell _ j x g h3 hj
    have hsp : ad.spot = none := (hs ad h5).resolve_right fun h => by rw [h] at h3; simp at h3
    have hml : m ≠ l.toNat := by omega
    refine ⟨⟨ad.block, ad.off + l.toNat * sz, none⟩, by rw [if_neg hml, h5]; simp [add_addr hsp], h6, ?_⟩
    rw [← h7, Nat.add_mul]
    congr 2
    show ad.off + l.toNat * sz + (i * sz + j) = ad.off + (l.toNat * sz + i * sz + j)
    omega
  · obtain ⟨h3, h4⟩ := hin i x hi
    obtain ⟨ad, h5, h6, h7, h8, _⟩ := hcell _ j x g h3 hj
    exact h8
  · obtain ⟨h3, h4⟩ := hin i x hi
    obtain ⟨ad, h5, h6, h7, h8, h9⟩ := hcell _ j x g h3 hj
    exact h9

/-- A part of a row. -/
theorem os_cut_row {t e sz id : Nat} {x : Operand} {lo hi mx : Option Operand} {e' sz' : Nat} {xs : List (List GV)} {l h : Int} (ho : o.op = .slice t x lo hi mx) (ht : P.underlying t = some (.slice e)) (hsz : P.cellsOf e = sz') (hsz' : sz' = sz) (hpos : sz ≠ 0)
    (hx : ρ x = .row id) (hM0 : M0 id = .row e' sz xs) (hl : bndG ρ 0 lo = some l) (hh : bndG ρ xs.length hi = some h) (hm : mxG ρ h xs.length mx) (hhm : hi = none → mx = none) (h0 : 0 ≤ l) (h1 : l ≤ h) (h2 : h ≤ xs.length) :
    OpS P o ρ nb M0 [id] (.sub id l.toNat h.toNat) [] [] := by
  subst hsz'
  refine .quiet fun Γ D ι M w ac hS hV hM => ?_
  have hob := hS.obj id
  rw [hM id (by simp), hM0] at hob
  obtain ⟨e0, e1, hz, cs, hown, hf, h3, h4⟩ := row_cases hob
  obtain ⟨hD, hv⟩ := (hx ▸ hV x (slice_ops ho).1).row_inv
  have hc : (ι id).n ≤ (ι id).c ∧ (ι id).c ≤ maxLen := by rcases h4 with ⟨_, h5, h6⟩ | ⟨b, _, h5, _⟩ <;> omega
  rw [e1] at hc
  unfold Hd.val at hv
  rw [e1] at hv
  obtain ⟨m, m1, m2, _, _, hr⟩ := run_cut ho ht hsz hpos hV hv (n := xs.length) hc.1 hl hh hm hhm h0 h1 h2
  refine ⟨_, .sub id l.toNat h.toNat hD _ _ (by omega) (by omega) (by omega) (fun hn => ?_) (fun ad ha => ?_) (fun hlt => ?_), hr⟩
  · have hA : (ι id).A = none := by
      split at hn <;> (cases hA : (ι id).A <;> simp_all)
    rcases h4 with ⟨_, h5, h6⟩ | ⟨b, h5, _⟩
    · omega
    · rw [hA] at h5; cases h5
  · cases hA : (ι id).A with
    | none => split at ha <;> simp_all
    | some b =>
      rw [hA] at ha
      split at ha
      · simp at ha; rw [← ha]
      · simp only [Option.map_some, Option.some.injEq, add_lit] at ha; rw [← ha]
  · rcases h4 with ⟨_, h5, h6⟩ | ⟨b, h5, _⟩
    · omega
    · refine ⟨b, h5, ?_⟩
      rw [if_neg (by omega), h5, e0]
      simp [add_lit]

theorem os_cut_sub {t e sz id a b : Nat} {x : Operand} {lo hi mx : Option Operand} {e' sz' : Nat} {xs : List (List GV)} {l h : Int} (ho : o.op = .slice t x lo hi mx) (ht : P.underlying t = some (.slice e)) (hsz : P.cellsOf e = sz') (hsz' : sz' = sz) (hpos : sz ≠ 0)
    (hx : ρ x = .sub id a b) (hM0 : M0 id = .row e' sz xs) (hl : bndG ρ 0 lo = some l) (hh : bndG ρ ((b - a : Nat) : Int) hi = some h) (hm : mxG ρ h (b - a) mx) (hhm : hi = none → mx = none) (h0 : 0 ≤ l) (h1 : l ≤ h) (h2 : h ≤ (b - a : Nat)) :
    OpS P o ρ nb M0 [id] (.sub id (a + l.toNat) (a + h.toNat)) [] [] := by
  subst hsz'
  refine .quiet fun Γ D ι M w ac hS hV hM => ?_
  have hob := hS.obj id
  rw [hM id (by simp), hM0] at hob
  obtain ⟨e0, e1, hz, cs, hown, hf, h3, h4⟩ := row_cases hob
  obtain ⟨hD, hab, hbn, A, c, hv, hc, hA, hs, hb⟩ := (hx ▸ hV x (slice_ops ho).1).sub_inv
  obtain ⟨m, m1, m2, _, _, hr⟩ := run_cut ho ht hsz hpos hV hv (n := b - a) hc.1 hl hh hm hhm h0 h1 h2
  rw [show h.toNat - l.toNat = (a + h.toNat) - (a + l.toNat) by omega] at hr
  refine ⟨_, .sub id _ _ hD _ _ (by omega) (by omega) (by omega) (fun hn => ?_) (fun ad ha => ?_) (fun hlt => ?_), hr⟩
  · have : A = none := by split at hn <;> (cases A <;> simp_all)
    have := hA this; omega
  · split at ha
    · exact hs ad ha
    · cases hA' : A with
      | none => simp [hA'] at ha
      | some ad' =>
        rw [hA'] at ha
        simp only [Option.map_some, Option.some.injEq, add_addr (hs ad' hA')] at ha
        rw [← ha]
  · obtain ⟨b', h5, h6⟩ := hb (by omega)
    refine ⟨b', h5, ?_⟩
    rw [if_neg (by omega), h6, e0]
    simp [add_lit, Nat.add_mul]

theorem os_cut_win {t e sz id a b : Nat} {x : Operand} {lo hi : Option Operand} {e' sz' : Nat} {xs : List (List GV)} {l h : Int} (ho : o.op = .slice t x lo hi none) (ht : P.underlying t = some (.slice e)) (hsz : P.cellsOf e = sz') (hsz' : sz' = sz) (hpos : sz ≠ 0)
    (hx : ρ x = .win id a b) (hM0 : M0 id = .row e' sz xs) (hl : bndG ρ 0 lo = some l) (hh : bndG ρ ((b - a : Nat) : Int) hi = some h) (h0 : 0 ≤ l) (h1 : l ≤ h) (h2 : h ≤ (xs.length - a : Nat)) :
    OpS P o ρ nb M0 [id] (.win id (a + l.toNat) (a + h.toNat)) [] [] := by
  subst hsz'
  refine .quiet fun Γ D ι M w ac hS hV hM => ?_
  have hob := hS.obj id
  rw [hM id (by simp), hM0] at hob
  obtain ⟨e0, e1, hz, cs, hown, hf, h3, h4⟩ := row_cases hob
  obtain ⟨hD, hab, hbn, hcn, A, hv, hA, hs, hb⟩ := (hx ▸ hV x (slice_ops ho).1).win_inv
  rw [e1] at hv
  obtain ⟨m, m1, m2, m3, _, hr⟩ := run_cut ho ht hsz hpos hV hv (n := xs.length - a) (Nat.le_refl _) hl hh trivial (fun _ => rfl) h0 h1 h2
  have hmc := m3 rfl
  rw [show h.toNat - l.toNat = (a + h.toNat) - (a + l.toNat) by omega, show m - l.toNat = (ι id).n - (a + l.toNat) by omega] at hr
  refine ⟨_, .win id _ _ hD _ (by omega) (by omega) hcn (fun hn => ?_) (fun ad ha => ?_) (fun hlt => ?_), hr⟩
  · exact hA (by split at hn <;> (cases A <;> simp_all))
  · split at ha
    · exact hs ad ha
    · cases hA' : A with
      | none => simp [hA'] at ha
      | some ad' =>
        rw [hA'] at ha
        simp only [Option.map_some, Option.some.injEq, add_addr (hs ad' hA')] at ha
        rw [← ha]
  · obtain ⟨b', h5, h6⟩ := hb (by omega)
    refine ⟨b', h5, ?_⟩
    rw [if_neg (by omega), h6, e0]
    simp [add_lit, Nat.add_mul]

end

end Go.Gh
