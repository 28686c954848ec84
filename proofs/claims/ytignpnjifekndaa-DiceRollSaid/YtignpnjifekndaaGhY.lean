import Derived.Test.YtignpnjifekndaaGhX

namespace Go.Gh
variable {P : Program}
variable {ops : Array Oper} {o : Oper} {rest : List Oper} {σ : List GV} {M : List GO} {tr : List Rec} {K : List GV → List GO → List Rec → Prop}

def nthDst : List Oper → Nat → Option Tmp
  | [], _ => none
  | o :: _, 0 => o.dst
  | _ :: l, n + 1 => nthDst l n

def nthG : List GV → Nat → Option GV
  | [], _ => none
  | g :: _, 0 => some g
  | _ :: l, n + 1 => nthG l n

theorem nthDst_ok : ∀ {l : List Oper} {j d : Nat}, nthDst l j = some d → (l.toArray[j]?).bind (·.dst) = some d
  | [], j, d, h => by cases h
  | o :: l, 0, d, h => by simpa [nthDst] using h
  | o :: l, n + 1, d, h => by have := nthDst_ok (l := l) (j := n) (d := d) h; simpa using this

theorem nthG_ok : ∀ {l : List GV} {j : Nat} {d : GV}, nthG l j = some d → l[j]? = some d
  | [], j, d, h => by cases h
  | o :: l, 0, d, h => by simpa [nthG] using h
  | o :: l, n + 1, d, h => by simpa using nthG_ok (l := l) (j := n) (d := d) h

theorem gwant_is {l : List Oper} {j d : Nat} {b t : Bool} (hs : o.guard = some (j, b)) (hd : nthDst l j = some d) (hb : nthG σ d = some (.lit (.bool t))) : gwant l.toArray σ o = some (t == b) := by
  unfold gwant
  rw [hs]
  simp only [nthDst_ok hd, nthG_ok hb]

/-- What is guarded, and known to be wanted. -/
theorem TW.wt {l : List Oper} {j d : Nat} {b : Bool} (hs : o.guard = some (j, b)) (hd : nthDst l j = some d) (hb : nthG σ d = some (.lit (.bool b)))
    (h : TW P l.toArray (⟨o.dst, o.op, o.type, o.pos, o.after, none⟩ :: rest) σ M tr K) : TW P l.toArray (o :: rest) σ M tr K := by
  refine TW.want (by rw [gwant_is hs hd hb]; simp) fun K' hK' => ?_
  obtain ⟨tr', σ', M', h1, h2⟩ := h
  exact ⟨tr', σ', M', h1, hK' _ _ _ h2⟩

theorem TW.sk {l : List Oper} {j d : Nat} {b t : Bool} {σ' : List GV} (hs : o.guard = some (j, b)) (hd : nthDst l j = some d) (hb : nthG σ d = some (.lit (.bool t))) (hn : (t == b) = false) (hp : putS σ o.dst gundef = σ')
    (h : TW P l.toArray rest σ' M (tr ++ [⟨o.dst, [], gundef, [], M.length, []⟩]) K) : TW P l.toArray (o :: rest) σ M tr K := by
  subst hp; exact TW.skip (by rw [gwant_is hs hd hb, hn]) h

theorem TW.su {l : List Oper} {j d : Nat} {b : Bool} {σ' : List GV} (hs : o.guard = some (j, b)) (hd : nthDst l j = some d) (hb : nthG σ d = some gundef) (hp : putS σ o.dst gundef = σ')
    (h : TW P l.toArray rest σ' M (tr ++ [⟨o.dst, [], gundef, [], M.length, []⟩]) K) : TW P l.toArray (o :: rest) σ M tr K := by
  subst hp
  refine TW.skip ?_ h
  unfold gwant
  rw [hs]
  simp only [nthDst_ok hd, nthG_ok hb, gundef]

theorem gd_s (x : GV) (l : List GV) (n : Nat) (d : GV) : (x :: l).getD (n + 1) d = l.getD n d := rfl
theorem gd_z (x : GV) (l : List GV) (d : GV) : (x :: l).getD 0 d = x := rfl
theorem ge_s (x : GO) (l : List GO) (n : Nat) (d : GO) : (x :: l).getD (n + 1) d = l.getD n d := rfl
theorem ge_z (x : GO) (l : List GO) (d : GO) : (x :: l).getD 0 d = x := rfl
theorem ga_s {α : Type} (x : α) (l : List α) (n : Nat) (h : n + 1 < (List.toArray (x :: l)).size) : (List.toArray (x :: l))[n + 1]'h = (List.toArray l)[n]'(by simpa using h) := rfl
theorem ga_z {α : Type} (x : α) (l : List α) (h : 0 < (List.toArray (x :: l)).size) : (List.toArray (x :: l))[0]'h = x := rfl
theorem tk_s {α : Type} (x : α) (l : List α) (n : Nat) : (x :: l).take (n + 1) = x :: l.take n := rfl
theorem tk_z {α : Type} (l : List α) : l.take 0 = [] := rfl
theorem tk_n {α : Type} (n : Nat) : ([] : List α).take (n + 1) = [] := rfl
theorem dr_s {α : Type} (x : α) (l : List α) (n : Nat) : (x :: l).drop (n + 1) = l.drop n := rfl
theorem dr_z {α : Type} (l : List α) : l.drop 0 = l := rfl

theorem wrap_u32 (n : Int) : IntKind.u32.wrap n = n % 4294967296 := by
  have h : IntKind.u32.wrap n = n % (2 ^ 32 : Int) := by
    unfold IntKind.wrap
    simp [IntKind.bits, IntKind.signed]
  rw [h]; rfl

theorem wrap_u64 (n : Int) : IntKind.u64.wrap n = n % 18446744073709551616 := by
  have h : IntKind.u64.wrap n = n % (2 ^ 64 : Int) := by
    unfold IntKind.wrap
    simp [IntKind.bits, IntKind.signed]
  rw [h]; rfl

theorem wrap_u8 (n : Int) : IntKind.u8.wrap n = n % 256 := by
  have h : IntKind.u8.wrap n = n % (2 ^ 8 : Int) := by
    unfold IntKind.wrap
    simp [IntKind.bits, IntKind.signed]
  rw [h]; rfl

theorem wrap_i64 (n : Int) (h1 : -9223372036854775808 ≤ n) (h2 : n ≤ 9223372036854775807) : IntKind.i64.wrap n = n := by
  unfold IntKind.wrap
  simp [IntKind.bits, IntKind.signed]
  omega

end Go.Gh
