import Derived.Test.YtoamjccphppdmaaGhE

namespace Go.Gh
section
variable {P : Program} {o : Oper} {ρ : Rho} {nb : Nat} {M0 : Nat → GO}
variable {Im Bw D : Nat → Prop} {ι : Nat → Hd} {w : World}

theorem VR.lit_inv {v u : Value} (h : VR Im Bw D ι w (.lit v) u) : u = v := by
  cases h with
  | imm h => cases h; rfl

theorem VR.litv (v : Value) : VR Im Bw D ι w (.lit v) v := .imm (.lit v)

theorem VR.ige_inv {n : Int} {u : Value} (h : VR Im Bw D ι w (.ige n) u) : ∃ m, u = .int .i64 m ∧ n ≤ m ∧ m ≤ 9223372036854775807 := by
  cases h with
  | imm h => cases h with | ige n m h h2 => exact ⟨m, rfl, h, h2⟩

theorem VR.row_inv {id : Nat} {u : Value} (h : VR Im Bw D ι w (.row id) u) : D id ∧ u = (ι id).val := by
  cases h with
  | imm h => cases h
  | row id h => exact ⟨h, rfl⟩

theorem VR.adr_inv {id i j : Nat} {u : Value} (h : VR Im Bw D ι w (.adr id i j) u) : D id ∧ ∃ b, (ι id).A = some b ∧ u = .pointer (some ⟨b, i * (ι id).sz + j, none⟩) := by
  cases h with
  | imm h => cases h
  | adr id i j b h hb => exact ⟨h, b, hb, rfl⟩

theorem VR.iadr_inv {bw : Bool} {cs : List GV} {u : Value} (h : VR Im Bw D ι w (.iadr bw cs) u) :
    ∃ (ad : Addr) (V : Nat → Value), u = .pointer (some ad) ∧ ad.spot = none ∧
      (∀ (j : Nat) g, cs[j]? = some g → (bif bw then Bw ad.block else Im ad.block) ∧ w.cell? ⟨ad.block, ad.off + j, none⟩ = some (V j) ∧ flat (V j) = true ∧ VP Im w g (V j)) := by
  cases h with
  | imm h => cases h with | iadr bw cs ad V hs hc hf hv => exact ⟨ad, V, rfl, hs, fun j g hg => ⟨(hc j g hg).1, (hc j g hg).2, hf j g hg, hv j g hg⟩⟩

theorem VR.agg_inv {cs : List GV} {u : Value} (h : VR Im Bw D ι w (.agg cs) u) :
    ∃ vs : Array Value, u = .agg vs ∧ vs.size = cs.length ∧ (∀ (i : Nat), i < vs.size → flat (vs.getD i undef) = true) ∧ ∀ (i : Nat) g, cs[i]? = some g → VR Im Bw D ι w g (vs.getD i undef) := by
  cases h with
  | imm h => cases h with | agg cs vs hn hf h => exact ⟨vs, rfl, hn, hf, fun i g hg => .imm (h i g hg)⟩
  | agg cs vs hn hf h => exact ⟨vs, rfl, hn, hf, h⟩

theorem VR.tup_inv {cs : List GV} {u : Value} (h : VR Im Bw D ι w (.tup cs) u) :
    ∃ vs : Array Value, u = .tuple vs ∧ vs.size = cs.length ∧ ∀ (i : Nat) g, cs[i]? = some g → VR Im Bw D ι w g (vs.getD i undef) := by
  cases h with
  | imm h => cases h with | tup cs vs hn h => exact ⟨vs, rfl, hn, fun i g hg => .imm (h i g hg)⟩
  | tup cs vs hn h => exact ⟨vs, rfl, hn, h⟩

theorem VR.clo_inv {f : Nat} {cs : List GV} {u : Value} (h : VR Im Bw D ι w (.clo f cs) u) :
    ∃ vs : Array Value, u = .func (.func f) #[] vs ∧ vs.size = cs.length ∧ ∀ (i : Nat) g, cs[i]? = some g → VR Im Bw D ι w g (vs.getD i undef) := by
  cases h with
  | imm h => cases h
  | clo f cs vs hn h => exact ⟨vs, rfl, hn, h⟩

theorem VR.sub_inv {id lo hi : Nat} {u : Value} (h : VR Im Bw D ι w (.sub id lo hi) u) :
    D id ∧ lo ≤ hi ∧ hi ≤ (ι id).n ∧ ∃ A c, u = .slice A (hi - lo) c ∧ (hi - lo ≤ c ∧ c ≤ maxLen) ∧ (A = none → c = 0) ∧ (∀ ad, A = some ad → ad.spot = none) ∧
      (lo < hi → ∃ b, (ι id).A = some b ∧ A = some ⟨b, lo * (ι id).sz, none⟩) := by
  cases h with
  | imm h => cases h
  | sub id lo hi hD A c h1 h2 hc hA hs hb => exact ⟨hD, h1, h2, A, c, rfl, hc, hA, hs, hb⟩

theorem VR.win_inv {id lo hi : Nat} {u : Value} (h : VR Im Bw D ι w (.win id lo hi) u) :
    D id ∧ lo ≤ hi ∧ hi ≤ (ι id).n ∧ ((ι id).c = (ι id).n ∧ (ι id).n ≤ maxLen) ∧ ∃ A, u = .slice A (hi - lo) ((ι id).n - lo) ∧ (A = none → (ι id).n = 0) ∧ (∀ ad, A = some ad → ad.spot = none) ∧
      (lo < (ι id).n → ∃ b, (ι id).A = some b ∧ A = some ⟨b, lo * (ι id).sz, none⟩) := by
  cases h with
  | imm h => cases h
  | win id lo hi hD A h1 h2 hc hA hs hb => exact ⟨hD, h1, h2, hc, A, rfl, hA, hs, hb⟩

theorem VR.win_sub {id lo hi : Nat} {u : Value} (h : VR Im Bw D ι w (.win id lo hi) u) : VR Im Bw D ι w (.sub id lo hi) u := by
  obtain ⟨hD, h1, h2, hc, A, rfl, hA, hs, hb⟩ := h.win_inv
  exact .sub id lo hi hD A _ h1 h2 (by omega) (fun h => by have := hA h; omega) hs fun h => hb (by omega)

theorem VR.zl_inv {u : Value} (h : VR Im Bw D ι w .zl u) : ∃ A, u = .slice A 0 0 := by
  cases h with
  | imm h => cases h with | zl A => exact ⟨A, rfl⟩

theorem VR.sl_inv {bw : Bool} {sz : Nat} {xs ex : List (List GV)} {u : Value} (h : VR Im Bw D ι w (.sl bw sz xs ex) u) :
    ∃ (A : Option Addr) (c : Nat) (V : Nat → Nat → Value), u = .slice A xs.length c ∧ (xs.length + ex.length ≤ c ∧ c ≤ maxLen) ∧ (A = none → c = 0) ∧ (∀ ad, A = some ad → ad.spot = none ∨ xs ++ ex = []) ∧
      (∀ x, x ∈ xs ++ ex → x.length = sz) ∧
      (∀ (i j : Nat) x g, (xs ++ ex)[i]? = some x → x[j]? = some g →
        ∃ ad, A = some ad ∧ (bif bw then Bw ad.block else Im ad.block) ∧ w.cell? ⟨ad.block, ad.off + (i * sz + j), none⟩ = some (V i j) ∧ flat (V i j) = true ∧ VP Im w g (V i j)) := by
  cases h with
  | imm h => cases h with
    | sl bw sz xs ex A c V hc hA hs hsz hcell hf hv =>
      refine ⟨A, c, V, rfl, hc, hA, hs, hsz, fun i j x g hx hg => ?_⟩
      obtain ⟨ad, h1, h2, h3⟩ := hcell i j x g hx hg
      exact ⟨ad, h1, h2, h3, hf i j x g hx hg, hv i j x g hx hg⟩

/-! The operations. -/

theorem os_move {x : Operand} (ho : o.op = .move x ∨ o.op = .assign x) : OpS P o ρ nb M0 [] (ρ x) [] [] := by
  refine .quiet fun Γ D ι M w a _ hV _ => ⟨a.eval x, hV x ?_, ?_⟩
  · rcases ho with ho | ho <;> simp [ho, Op.operands]
  · rcases ho with ho | ho <;> simp [execOp, ho]

theorem os_pick {c x y : Operand} {t : Bool} (ho : o.op = .pick c x y) (hc : ρ c = .lit (.bool t)) : OpS P o ρ nb M0 [] (bif t then ρ x else ρ y) [] [] := by
  refine .quiet fun Γ D ι M w a _ hV _ => ?_
  have h1 := (hc ▸ hV c (by simp [ho, Op.operands])).lit_inv
  cases t with
  | true => exact ⟨a.eval x, hV x (by simp [ho, Op.operands]), by simp [execOp, ho, h1, asBool]⟩
  | false => exact ⟨a.eval y, hV y (by simp [ho, Op.operands]), by simp [execOp, ho, h1, asBool]⟩

theorem run_eqGuard_int {op : BinOp} {t : TypeId} {x y : Operand} {k k' : IntKind} {a b : Int} : (eqGuard op t x y (.int k a) (.int k' b)).run P w = .ok () w := by
  unfold eqGuard; cases op <;> simp <;> rfl

theorem run_gint {op : BinOp} {t : TypeId} {k : IntKind} {a b : Int} {r : Value} (h1 : op ≠ .shl) (h2 : op ≠ .shr) (h : gint op k a b = some r) :
    (binOp op t (.int k a) (.int k b)).run P w = .ok r w := by
  cases op <;> simp only [gint, Option.some.injEq, ne_eq, reduceCtorEq, not_false_eq_true] at h h1 h2
  all_goals first
    | (subst h; simp [binOp, Op.intArith, Op.intBits, Op.intCmp]; done)
    | (split at h
       · cases h
       · rename_i hb
         simp only [Option.some.injEq] at h
         subst h
         simp [binOp, Op.intDiv, hb])
    | skip

theorem run_gshift {op : BinOp} {t : TypeId} {k k' : IntKind} {a b : Int} {r : Value} (h : gshift op k a b = some r) :
    (binOp op t (.int k a) (.int k' b)).run P w = .ok r w := by
  unfold gshift at h
  split at h
  · cases h
  · rename_i hb
    cases op <;> simp only [Option.some.injEq, reduceCtorEq] at h
    all_goals
      subst h
      simp [binOp, Op.shift, hb]

theorem run_equalIn_bool {d : Nat} {t : TypeId} (hu : P.underlying t = some .bool) (a b : Bool) : (Op.equalIn (d + 1) t (.bool a) (.bool b)).run P w = .ok (a == b) w := by
  rw [Op.equalIn]
  simp only [Sem.run_bind, run_und hu, Result.andThen_ok, Sem.run_pure]

theorem run_equalIn_int {d : Nat} {t : TypeId} {k : IntKind} (hu : P.underlying t = some (.int k)) (q : IntKind) (a b : Int) : (Op.equalIn (d + 1) t (.int q a) (.int q b)).run P w = .ok (a == b) w := by
  rw [Op.equalIn]
  simp only [Sem.run_bind, run_und hu, Result.andThen_ok, Sem.run_pure, if_true]

theorem run_equalIn_nilp {d : Nat} {t e : TypeId} (hu : P.underlying t = some (.pointer e)) : (Op.equalIn (d + 1) t (.pointer none) (.pointer none)).run P w = .ok true w := by
  rw [Op.equalIn]
  simp only [Sem.run_bind, run_und hu, Result.andThen_ok, Sem.run_pure]
  rfl

theorem run_equal_bool {t : TypeId} (hu : P.underlying t = some .bool) (a b : Bool) : (Op.equal t (.bool a) (.bool b)).run P w = .ok (a == b) w :=
  run_equalIn_bool (d := 9999) hu a b

theorem run_equal_nilp {t e : TypeId} (hu : P.underlying t = some (.pointer e)) : (Op.equal t (.pointer none) (.pointer none)).run P w = .ok true w :=
  run_equalIn_nilp (d := 9999) hu

theorem run_eqGuard_lit {op : BinOp} {t : TypeId} {x y : Operand} {a b : Value} (ha : ∀ vs, a ≠ .agg vs) (hn : a ≠ .nilIface) : (eqGuard op t x y a b).run P w = .ok () w := by
  unfold eqGuard
  cases a <;> first | exact absurd rfl (ha _) | exact absurd rfl hn | (cases op <;> rfl)

theorem os_bin {op : BinOp} {t yt : TypeId} {x y : Operand} {a b r : Value} (ho : o.op = .binOp op t x y yt) (hx : ρ x = .lit a) (hy : ρ y = .lit b)
    (h : gbin P op t a b = some r) : OpS P o ρ nb M0 [] (.lit r) [] [] := by
  refine .quiet fun Γ D ι M w ac _ hV _ => ⟨r, .litv r, ?_⟩
  have h1 := (hx ▸ hV x (by simp [ho, Op.operands])).lit_inv
  have h2 := (hy ▸ hV y (by simp [ho, Op.operands])).lit_inv
  simp only [execOp, ho, h1, h2, Sem.run_bind]
  cases a <;> cases b <;> simp only [gbin, reduceCtorEq] at h
  case int.int k a k' b =>
    rw [run_eqGuard_int]
    simp only [Result.andThen_ok, Sem.run_pure]
    split at h
    · rw [run_gshift h]; rfl
    · rw [run_gshift h]; rfl
    · split at h
      · rename_i hk
        subst hk
        rw [run_gint (by assumption) (by assumption) h]; rfl
      · cases h
  case bool.bool a b =>
    rw [run_eqGuard_lit (by simp) (by simp)]
    simp only [Result.andThen_ok]
    split at h
    · rename_i hu
      simp only [Option.some.injEq] at h
      subst h
      simp only [binOp, Sem.run_bind, run_equal_bool hu, Result.andThen_ok, Sem.run_pure]
    · rename_i hu
      simp only [Option.some.injEq] at h
      subst h
      simp only [binOp, Sem.run_bind, run_equal_bool hu, Result.andThen_ok, Sem.run_pure]
      rfl
    · cases h
  case string.string a b =>
    rw [run_eqGuard_lit (by simp) (by simp)]
    simp only [Result.andThen_ok]
    split at h
    all_goals first
      | (simp only [Option.some.injEq] at h
         subst h
         simp only [binOp, Op.stringOp, Sem.run_pure, Result.andThen_ok])
      | cases h
  case pointer.pointer a b =>
    cases a <;> cases b <;> simp only [reduceCtorEq] at h
    rw [run_eqGuard_lit (by simp) (by simp)]
    simp only [Result.andThen_ok]
    split at h
    · rename_i hu
      simp only [Option.some.injEq] at h
      subst h
      simp only [binOp, Sem.run_bind, run_equal_nilp hu, Result.andThen_ok, Sem.run_pure]
    · rename_i hu
      simp only [Option.some.injEq] at h
      subst h
      simp only [binOp, Sem.run_bind, run_equal_nilp hu, Result.andThen_ok, Sem.run_pure]
      rfl
    · cases h

end
end Go.Gh
