import Derived.Test.YtoamjccphppdmaaGhQ

namespace Go.Gh

/-! Which operations must wait for which. -/

def befG (acc : List Nat) (o : Oper) : Nat :=
  o.after.toList.foldl (fun s e => if Region.binds .any e then s ||| 2 ^ e.on ||| acc.getD e.on 0 else s) 0

def befs : List Oper → List Nat → List Nat
  | [], acc => acc
  | o :: r, acc => befs r (acc ++ [befG acc o])

def edgesBack (ops : List Oper) : Bool := ops.zipIdx.all fun (o, j) => o.after.toList.all fun e => !Region.binds .any e || decide (e.on < j)

theorem befs_prefix : ∀ (l : List Oper) (acc : List Nat), ∃ r, befs l acc = acc ++ r ∧ r.length = l.length
  | [], acc => ⟨[], by simp [befs], rfl⟩
  | o :: l, acc => by
    obtain ⟨r, h1, h2⟩ := befs_prefix l (acc ++ [befG acc o])
    exact ⟨befG acc o :: r, by simp [befs, h1], by simp [h2]⟩

theorem befs_get : ∀ (l : List Oper) (acc : List Nat) (j : Nat) o, l[j]? = some o → ∃ acc', acc'.length = acc.length + j ∧ (befs l acc)[acc.length + j]? = some (befG acc' o) ∧
    ∀ i, i < acc.length + j → (befs l acc)[i]? = acc'[i]?
  | [], acc, j, o, h => by simp at h
  | x :: l, acc, 0, o, h => by
    simp at h; subst h
    obtain ⟨r, h1, _⟩ := befs_prefix l (acc ++ [befG acc x])
    refine ⟨acc, rfl, ?_, fun i hi => ?_⟩
    · simp [befs, h1]
    · simp only [befs, h1, List.append_assoc]
      rw [List.getElem?_append_left (by omega)]
  | x :: l, acc, j + 1, o, h => by
    obtain ⟨acc', h1, h2, h3⟩ := befs_get l (acc ++ [befG acc x]) j o (by simpa using h)
    simp only [List.length_append, List.length_singleton] at h1 h2 h3
    refine ⟨acc', by omega, ?_, fun i hi => h3 i (by omega)⟩
    rw [show acc.length + (j + 1) = acc.length + 1 + j by omega]
    exact h2

theorem befG_bit {acc : List Nat} {o : Oper} {i : Nat} (h : (befG acc o).testBit i = true) : ∃ e, e ∈ o.after.toList ∧ Region.binds .any e = true ∧ (i = e.on ∨ (acc.getD e.on 0).testBit i = true) := by
  unfold befG at h
  generalize hl : o.after.toList = l at h ⊢
  have gen : ∀ (l : List Edge) (s : Nat), (l.foldl (fun s e => if Region.binds .any e then s ||| 2 ^ e.on ||| acc.getD e.on 0 else s) s).testBit i = true →
      s.testBit i = true ∨ ∃ e, e ∈ l ∧ Region.binds .any e = true ∧ (i = e.on ∨ (acc.getD e.on 0).testBit i = true) := by
    intro l
    induction l with
    | nil => exact fun s h => .inl h
    | cons e l ih =>
      intro s h
      rcases ih _ h with h | ⟨e', h1, h2⟩
      · have h : (if Region.binds .any e then s ||| 2 ^ e.on ||| acc.getD e.on 0 else s).testBit i = true := h
        split at h
        · rename_i hb
          simp only [Nat.testBit_or, Bool.or_eq_true] at h
          rcases h with (h | h) | h
          · exact .inl h
          · rw [Nat.testBit_two_pow] at h
            exact .inr ⟨e, by simp, hb, .inl (by simpa using (of_decide_eq_true h).symm)⟩
          · exact .inr ⟨e, by simp, hb, .inr h⟩
        · exact .inl h
      · exact .inr ⟨e', by simp [h1], h2⟩
  rcases gen l 0 h with h | h
  · simp at h
  · exact h

/-- Operation i comes ahead of j, whatever the order. -/
def ahead (ops : List Oper) (i j : Nat) : Bool := ((befs ops []).getD j 0).testBit i

theorem ahead_step {ops : List Oper} (hb : edgesBack ops = true) {i j : Nat} {o : Oper} (ho : ops[j]? = some o) (h : ahead ops i j = true) :
    ∃ e, e ∈ o.after.toList ∧ Region.binds .any e = true ∧ (i = e.on ∨ ahead ops i e.on = true) := by
  obtain ⟨acc', h1, h2, h3⟩ := befs_get ops [] j o ho
  simp only [List.length_nil, Nat.zero_add] at h1 h2 h3
  unfold ahead at h
  rw [List.getD_eq_getElem?_getD, h2] at h
  obtain ⟨e, he, hbd, hi⟩ := befG_bit h
  refine ⟨e, he, hbd, hi.imp id fun hi => ?_⟩
  have hlt : e.on < j := by
    have hz : ops.zipIdx[j]? = some (o, j) := by simp [List.getElem?_zipIdx, ho]
    have := List.all_eq_true.1 hb (o, j) (List.mem_of_getElem? hz)
    have := List.all_eq_true.1 this e he
    simpa [hbd] using this
  unfold ahead
  rw [List.getD_eq_getElem?_getD, h3 e.on hlt, ← List.getD_eq_getElem?_getD]
  exact hi

/-- The slots that an operation looks at. -/
def readsOf (ops : Array Oper) (o : Oper) : List Nat :=
  (o.op.operands.toList.filterMap fun | .tmp t => some t | _ => none) ++
  (match o.guard with
   | some (g, _) => ((ops[g]?).bind (·.dst)).toList
   | none => [])

/-- May these two not change places? -/
def clash (ops : Array Oper) (o o' : Oper) (r r' : Rec) : Bool :=
  (match r.dst with | some d => (readsOf ops o').contains d | none => false) ||
  (match r'.dst with | some d => (readsOf ops o).contains d | none => false) ||
  (match r.dst, r'.dst with | some d, some d' => d == d' | _, _ => false) ||
  r'.ids.any (inW r) || r.ids.any (inW r') || (r'.ups.any fun x => inW r x.1) || (r.ups.any fun x => inW r' x.1)

/-- Whatever two operations may change places do not see each other. -/
def indep (ops : Array Oper) (tr : List Rec) : Bool :=
  edgesBack ops.toList && (List.range tr.length).all fun j => (List.range j).all fun i =>
    ahead ops.toList i j || !(clash ops (ops.getD i default) (ops.getD j default) (tr.getD i ⟨none, [], .any, [], 0, []⟩) (tr.getD j ⟨none, [], .any, [], 0, []⟩))

end Go.Gh
