import Derived.Test.YtoamjccphppdmaaGhX

namespace Go.Gh
variable {P : Program}
variable {ds : List (Option Tmp)} {o : Oper} {rest : List Oper} {σ : List GV} {M : List GO} {tr : List RI} {K : List GV → List GO → List RI → Prop}

def nthD : List (Option Tmp) → Nat → Option Tmp
  | [], _ => none
  | d :: _, 0 => d
  | _ :: l, n + 1 => nthD l n

def nthG : List GV → Nat → Option GV
  | [], _ => none
  | g :: _, 0 => some g
  | _ :: l, n + 1 => nthG l n

theorem nthD_ok : ∀ {l : List (Option Tmp)} {j d : Nat}, nthD l j = some d → (l[j]?).bind id = some d
  | [], j, d, h => by cases h
  | o :: l, 0, d, h => by simpa [nthD] using h
  | o :: l, n + 1, d, h => by have := nthD_ok (l := l) (j := n) (d := d) h; simpa using this

theorem nthG_ok : ∀ {l : List GV} {j : Nat} {d : GV}, nthG l j = some d → l[j]? = some d
  | [], j, d, h => by cases h
  | o :: l, 0, d, h => by simpa [nthG] using h
  | o :: l, n + 1, d, h => by simpa using nthG_ok (l := l) (j := n) (d := d) h

theorem gwant_is {j d : Nat} {b t : Bool} (hs : o.guard = some (j, b)) (hd : nthD ds j = some d) (hb : nthG σ d = some (.lit (.bool t))) : gwantD ds σ o = some (t == b) := by
  unfold gwantD
  rw [hs]
  simp only [nthD_ok hd, nthG_ok hb]

/-- What is guarded, and known to be wanted. -/
theorem TW.wt {j d : Nat} {b : Bool} (hs : o.guard = some (j, b)) (hd : nthD ds j = some d) (hb : nthG σ d = some (.lit (.bool b)))
    (h : TW P ds (⟨o.dst, o.op, o.type, o.pos, o.after, none⟩ :: rest) σ M tr K) : TW P ds (o :: rest) σ M tr K :=
  TW.want (by rw [gwant_is hs hd hb]; simp) h

theorem TW.sk {j d : Nat} {b t : Bool} {σ' : List GV} (hs : o.guard = some (j, b)) (hd : nthD ds j = some d) (hb : nthG σ d = some (.lit (.bool t))) (hn : (t == b) = false) (hp : putS σ o.dst gundef = σ')
    (h : TW P ds rest σ' M (tr ++ [⟨o.dst, [], [], M.length, 0⟩]) K) : TW P ds (o :: rest) σ M tr K := by
  subst hp; exact TW.skip (by rw [gwant_is hs hd hb, hn]) h

theorem TW.su {j d : Nat} {b : Bool} {σ' : List GV} (hs : o.guard = some (j, b)) (hd : nthD ds j = some d) (hb : nthG σ d = some gundef) (hp : putS σ o.dst gundef = σ')
    (h : TW P ds rest σ' M (tr ++ [⟨o.dst, [], [], M.length, 0⟩]) K) : TW P ds (o :: rest) σ M tr K := by
  subst hp
  refine TW.skip ?_ h
  unfold gwantD
  rw [hs]
  simp only [nthD_ok hd, nthG_ok hb, gundef]

theorem mk_t (m : List Bool) (g : GV) (σ : List GV) : msk (true :: m) (g :: σ) = g :: msk m σ := rfl
theorem mk_f (m : List Bool) (g : GV) (σ : List GV) : msk (false :: m) (g :: σ) = .any :: msk m σ := rfl
theorem mk_n (σ : List GV) : msk [] σ = σ := rfl
theorem ba_n (ids : List Nat) : borAll ids [] = [] := rfl
theorem ba_c (ids : List Nat) (g : GV) (l : List GV) : borAll ids (g :: l) = bor ids g ++ borAll ids l := rfl
theorem bo_lit (ids : List Nat) (v : Value) : bor ids (.lit v) = [] := rfl
theorem bo_agg (ids : List Nat) (l : List GV) : bor ids (.agg l) = [] := rfl
theorem bo_sl (ids : List Nat) (b : Bool) (sz : Nat) (xs ex : List (List GV)) : bor ids (.sl b sz xs ex) = [] := rfl
theorem bo_adr (a b c : Nat) : bor [] (.adr a b c) = [a] := rfl
theorem bo_iadr (ids : List Nat) (b : Bool) (l : List GV) : bor ids (.iadr b l) = [] := rfl
theorem bo_any (ids : List Nat) : bor ids .any = [] := rfl
theorem bo_zl (ids : List Nat) : bor ids .zl = [] := rfl
theorem bo_clo (ids : List Nat) (f : Nat) (l : List GV) : bor ids (.clo f l) = [] := rfl
theorem bo_row0 (id : Nat) : bor [] (.row id) = [id] := rfl
theorem bo_sub0 (id a b : Nat) : bor [] (.sub id a b) = [id] := rfl
theorem ad_row (id : Nat) : gid (.row id) = [id] := rfl
theorem ad_sub (id a b : Nat) : gid (.sub id a b) = [id] := rfl
theorem ad_win (id a b : Nat) : gid (.win id a b) = [id] := rfl
theorem ad_sl (b : Bool) (sz : Nat) (xs ex : List (List GV)) : gid (.sl b sz xs ex) = [] := rfl
theorem ad_lit (v : Value) : gid (.lit v) = [] := rfl
theorem ad_zl : gid .zl = [] := rfl

theorem gd_s (x : GV) (l : List GV) (n : Nat) (d : GV) : (x :: l).getD (n + 1) d = l.getD n d := rfl
theorem gd_z (x : GV) (l : List GV) (d : GV) : (x :: l).getD 0 d = x := rfl
theorem ge_s (x : GO) (l : List GO) (n : Nat) (d : GO) : (x :: l).getD (n + 1) d = l.getD n d := rfl
theorem ge_z (x : GO) (l : List GO) (d : GO) : (x :: l).getD 0 d = x := rfl
theorem ga_s {α : Type} (x : α) (l : List α) (n : Nat) (h : n + 1 < (List.toArray (x :: l)).size) : (List.toArray (x :: l))[n + 1]'h = (List.toArray l)[n]'(by simpa using h) := rfl
theorem ga_z {α : Type} (x : α) (l : List α) (h : 0 < (List.toArray (x :: l)).size) : (List.toArray (x :: l))[0]'h = x := rfl
theorem tk_s {α : Type} (x : α) (l : List α) (n : Nat) : (x :: l).take (n + 1) = x :: l.take n := rfl
theorem tk_z {α : Type} (l : List α) : l.take 0 = [] := rfl
theorem tk_n {α : Type} (n : Nat) : ([] : List α).take (n + 1) = [] := rfl
theorem dr_s {α : Type} (x : α) (l : List α) (n : Nat) : (x :: l).drop (n + 1) = l.drop n := rfl
theorem dr_z {α : Type} (l : List α) : l.drop 0 = l := rfl

theorem wrap_u32 (n : Int) : IntKind.u32.wrap n = n % 4294967296 := by
  have h : IntKind.u32.wrap n = n % (2 ^ 32 : Int) := by
    unfold IntKind.wrap
    simp [IntKind.bits, IntKind.signed]
  rw [h]; rfl

theorem wrap_u64 (n : Int) : IntKind.u64.wrap n = n % 18446744073709551616 := by
  have h : IntKind.u64.wrap n = n % (2 ^ 64 : Int) := by
    unfold IntKind.wrap
    simp [IntKind.bits, IntKind.signed]
  rw [h]; rfl

theorem wrap_u8 (n : Int) : IntKind.u8.wrap n = n % 256 := by
  have h : IntKind.u8.wrap n = n % (2 ^ 8 : Int) := by
    unfold IntKind.wrap
    simp [IntKind.bits, IntKind.signed]
  rw [h]; rfl

theorem wrap_i64 (n : Int) (h1 : -9223372036854775808 ≤ n) (h2 : n ≤ 9223372036854775807) : IntKind.i64.wrap n = n := by
  unfold IntKind.wrap
  simp [IntKind.bits, IntKind.signed]
  omega

end Go.Gh
