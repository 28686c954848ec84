import Derived.Test.YtoamjccphppdmaaGhG

namespace Go.Gh
section
variable {P : Program} {o : Oper} {ρ : Rho} {nb : Nat} {M0 : Nat → GO}
variable {Im Bw D : Nat → Prop} {ι : Nat → Hd} {w : World}

theorem run_fieldPlace {f : Field} {ad : Addr} {i : TypeInfo} (hi : P.info? f.type = some i) (hne : P.cellsOf f.type ≠ 0) : (fieldPlace ad f).run P w = .ok (ad.add f.offset) w := by
  simp [fieldPlace, run_sz hi, hne]

theorem cellsOf_info {t : TypeId} (h : P.cellsOf t ≠ 0) : ∃ i, P.info? t = some i := by
  unfold Program.cellsOf at h
  cases e : P.info? t with
  | none => simp [e] at h
  | some i => exact ⟨i, rfl⟩

theorem os_field {s : TypeId} {x : Operand} {n id i j : Nat} {fs : Array Field} {f : Field} (ho : o.op = .fieldAddr s x n) (hx : ρ x = .adr id i j) (hs : P.underlying s = some (.struct fs)) (hf : fs[n]? = some f)
    (hne : P.cellsOf f.type ≠ 0) : OpS P o ρ nb M0 [] (.adr id i (j + f.offset)) [] [] := by
  refine .quiet fun Γ D ι M w ac _ hV _ => ?_
  obtain ⟨hD, b, hb, h1⟩ := (hx ▸ hV x (by simp [ho, Op.operands])).adr_inv
  obtain ⟨ti, hi⟩ := cellsOf_info hne
  refine ⟨_, .adr id i (j + f.offset) b hD hb, ?_⟩
  simp only [execOp, ho, h1, Instr.fieldAt, Sem.run_bind, run_und hs, Result.andThen_ok, hf, Instr.sureAddr, Sem.run_pure, run_fieldPlace hi hne, add_lit]
  simp [Nat.add_assoc]

theorem os_fieldI {s : TypeId} {x : Operand} {n : Nat} {bw : Bool} {cs : List GV} {fs : Array Field} {f : Field} (ho : o.op = .fieldAddr s x n) (hx : ρ x = .iadr bw cs) (hs : P.underlying s = some (.struct fs)) (hf : fs[n]? = some f)
    (hne : P.cellsOf f.type ≠ 0) : OpS P o ρ nb M0 [] (.iadr bw (cs.drop f.offset)) [] [] := by
  refine .quiet fun Γ D ι M w ac _ hV _ => ?_
  obtain ⟨ad, V, h1, hsp, hc⟩ := (hx ▸ hV x (by simp [ho, Op.operands])).iadr_inv
  obtain ⟨ti, hi⟩ := cellsOf_info hne
  refine ⟨.pointer (some ⟨ad.block, ad.off + f.offset, none⟩), .imm (.iadr bw _ _ (fun j => V (f.offset + j)) rfl (fun j g hg => ?_) (fun j g hg => ?_) (fun j g hg => ?_)), ?_⟩
  · rw [List.getElem?_drop] at hg
    have := hc _ g hg
    exact ⟨this.1, by simpa [Nat.add_assoc] using this.2.1⟩
  · rw [List.getElem?_drop] at hg; exact (hc _ g hg).2.2.1
  · rw [List.getElem?_drop] at hg; exact (hc _ g hg).2.2.2
  · simp [execOp, ho, h1, Instr.fieldAt, run_und hs, hf, Instr.sureAddr, run_fieldPlace hi hne, add_addr hsp]

theorem run_asIntOf {k : IntKind} {n : Int} : (asIntOf (.int k n)).run P w = .ok (k, n) w := rfl

/-- An element's address in a slice that is read alone. -/
theorem os_idxI {t e : TypeId} {x y : Operand} {bw : Bool} {sz : Nat} {xs ex : List (List GV)} {k : IntKind} {n : Int} {cs : List GV} (ho : o.op = .indexAddr t x y) (ht : P.underlying t = some (.slice e)) (hsz : P.cellsOf e = sz) (hpos : sz ≠ 0)
    (hx : ρ x = .sl bw sz xs ex) (hy : ρ y = .lit (.int k n)) (h0 : 0 ≤ n) (h1 : n < xs.length) (hc : xs[n.toNat]? = some cs) : OpS P o ρ nb M0 [] (.iadr bw cs) [] [] := by
  refine .quiet fun Γ D ι M w ac _ hV _ => ?_
  obtain ⟨A, c, V, e1, hcap, hA, hs, hl, hcell⟩ := (hx ▸ hV x (by simp [ho, Op.operands])).sl_inv
  have e2 := (hy ▸ hV y (by simp [ho, Op.operands])).lit_inv
  obtain ⟨ti, hi⟩ := cellsOf_info (P := P) (t := e) (by omega)
  have hlt : n.toNat < xs.length := by omega
  have hin : (xs ++ ex)[n.toNat]? = some cs := by rw [List.getElem?_append_left hlt]; exact hc
  have hcl : cs.length = sz := hl cs (List.mem_of_getElem? hin)
  obtain ⟨ad, hAd, _⟩ := hcell n.toNat 0 cs (cs[0]'(by omega)) hin (List.getElem?_eq_getElem (by omega))
  have hsp := (hs ad hAd).resolve_right fun h => by simp [h] at hin
  refine ⟨.pointer (some ⟨ad.block, ad.off + n.toNat * sz, none⟩), .imm (.iadr bw cs _ (fun j => V n.toNat j) rfl (fun j g hg => ?_) (fun j g hg => ?_) (fun j g hg => ?_)), ?_⟩
  · obtain ⟨ad', h2, h3, h4, _⟩ := hcell n.toNat j cs g hin hg
    obtain rfl : ad' = ad := Option.some.inj (h2.symm.trans hAd)
    exact ⟨h3, by simpa [Nat.add_assoc] using h4⟩
  · obtain ⟨_, _, _, _, h5, _⟩ := hcell n.toNat j cs g hin hg; exact h5
  · obtain ⟨_, _, _, _, _, h6⟩ := hcell n.toNat j cs g hin hg; exact h6
  · simp [execOp, ho, e1, e2, Instr.indexAt, run_asIntOf, run_und ht, hAd, h0, h1, run_sz hi, hsz, add_addr hsp]

/-- An element's address in a row that may be written. -/
theorem os_idxR {t e e' : TypeId} {x y : Operand} {sz id : Nat} {xs : List (List GV)} {k : IntKind} {n : Int} (ho : o.op = .indexAddr t x y) (ht : P.underlying t = some (.slice e)) (hsz : P.cellsOf e = sz) (hpos : sz ≠ 0)
    (hx : ρ x = .row id) (hM : M0 id = .row e' sz xs) (hy : ρ y = .lit (.int k n)) (h0 : 0 ≤ n) (h1 : n < xs.length) : OpS P o ρ nb M0 [id] (.adr id n.toNat 0) [] [] := by
  refine .quiet fun Γ D ι M w ac hS hV hMM => ?_
  obtain ⟨hD, e1⟩ := (hx ▸ hV x (by simp [ho, Op.operands])).row_inv
  have e2 := (hy ▸ hV y (by simp [ho, Op.operands])).lit_inv
  obtain ⟨ti, hi⟩ := cellsOf_info (P := P) (t := e) (by omega)
  have hob := hS.obj id
  rw [hMM id (by simp), hM] at hob
  obtain ⟨hz, hn, _, cs, hown, _⟩ := hob
  have hA : ∃ b, (ι id).A = some b := by
    rcases hown.2 with ⟨_, h⟩ | ⟨b, cap, cur, hv, _⟩
    · omega
    · unfold Hd.val at hv
      cases hA : (ι id).A with
      | none => simp [hA] at hv
      | some b' => exact ⟨b', rfl⟩
  obtain ⟨b, hb⟩ := hA
  refine ⟨_, .adr id n.toNat 0 b hD hb, ?_⟩
  have h1' : n < (ι id).n := by omega
  simp [execOp, ho, e1, e2, Hd.val, hb, Instr.indexAt, run_asIntOf, run_und ht, h0, h1', run_sz hi, hsz, add_lit, hz]

/-- An element's address in a part of a row. -/
theorem os_idxS {t e e' : TypeId} {x y : Operand} {sz id lo hi : Nat} {xs : List (List GV)} {k : IntKind} {n : Int} (ho : o.op = .indexAddr t x y) (ht : P.underlying t = some (.slice e)) (hsz : P.cellsOf e = sz) (hpos : sz ≠ 0)
    (hx : ρ x = .sub id lo hi) (hM : M0 id = .row e' sz xs) (hy : ρ y = .lit (.int k n)) (h0 : 0 ≤ n) (h1 : n < (hi - lo : Nat)) : OpS P o ρ nb M0 [id] (.adr id (lo + n.toNat) 0) [] [] := by
  refine .quiet fun Γ D ι M w ac hS hV hMM => ?_
  obtain ⟨hD, hle, hhi, A, c, e1, hc, hA, hs, hb⟩ := (hx ▸ hV x (by simp [ho, Op.operands])).sub_inv
  have e2 := (hy ▸ hV y (by simp [ho, Op.operands])).lit_inv
  obtain ⟨ti, hti⟩ := cellsOf_info (P := P) (t := e) (by omega)
  have hob := hS.obj id
  rw [hMM id (by simp), hM] at hob
  obtain ⟨hz, hn, _, cs, hown, _⟩ := hob
  obtain ⟨b, hb, hAb⟩ := hb (by omega)
  refine ⟨_, .adr id (lo + n.toNat) 0 b hD hb, ?_⟩
  simp [execOp, ho, e1, e2, hAb, Instr.indexAt, run_asIntOf, run_und ht, h0, h1, run_sz hti, hsz, add_lit, hz, Nat.add_mul]

/-- An element's address in an array. -/
theorem os_idxA {t e : TypeId} {len : Nat} {x y : Operand} {id i j : Nat} {k : IntKind} {n : Int} (ho : o.op = .indexAddr t x y) (ht : P.underlying t = some (.array len e)) (hpos : P.cellsOf e ≠ 0)
    (hx : ρ x = .adr id i j) (hy : ρ y = .lit (.int k n)) (h0 : 0 ≤ n) (h1 : n < len) : OpS P o ρ nb M0 [] (.adr id i (j + n.toNat * P.cellsOf e)) [] [] := by
  refine .quiet fun Γ D ι M w ac hS hV hMM => ?_
  obtain ⟨hD, b, hb, e1⟩ := (hx ▸ hV x (by simp [ho, Op.operands])).adr_inv
  have e2 := (hy ▸ hV y (by simp [ho, Op.operands])).lit_inv
  obtain ⟨ti, hti⟩ := cellsOf_info (P := P) (t := e) hpos
  refine ⟨_, .adr id i (j + n.toNat * P.cellsOf e) b hD hb, ?_⟩
  simp [execOp, ho, e1, e2, Instr.indexAt, Instr.sureAddr, run_asIntOf, run_und ht, h0, h1, run_sz hti, add_lit, Nat.add_assoc]

theorem os_idxAI {t e : TypeId} {len : Nat} {x y : Operand} {bw : Bool} {cs : List GV} {k : IntKind} {n : Int} (ho : o.op = .indexAddr t x y) (ht : P.underlying t = some (.array len e)) (hpos : P.cellsOf e ≠ 0)
    (hx : ρ x = .iadr bw cs) (hy : ρ y = .lit (.int k n)) (h0 : 0 ≤ n) (h1 : n < len) : OpS P o ρ nb M0 [] (.iadr bw (cs.drop (n.toNat * P.cellsOf e))) [] [] := by
  refine .quiet fun Γ D ι M w ac hS hV hMM => ?_
  obtain ⟨ad, V, e1, hsp, hc⟩ := (hx ▸ hV x (by simp [ho, Op.operands])).iadr_inv
  have e2 := (hy ▸ hV y (by simp [ho, Op.operands])).lit_inv
  obtain ⟨ti, hti⟩ := cellsOf_info (P := P) (t := e) hpos
  refine ⟨.pointer (some ⟨ad.block, ad.off + n.toNat * P.cellsOf e, none⟩), .imm (.iadr bw _ _ (fun j => V (n.toNat * P.cellsOf e + j)) rfl (fun j g hg => ?_) (fun j g hg => ?_) (fun j g hg => ?_)), ?_⟩
  · rw [List.getElem?_drop] at hg
    have := hc _ g hg
    exact ⟨this.1, by simpa [Nat.add_assoc] using this.2.1⟩
  · rw [List.getElem?_drop] at hg; exact (hc _ g hg).2.2.1
  · rw [List.getElem?_drop] at hg; exact (hc _ g hg).2.2.2
  · simp [execOp, ho, e1, e2, Instr.indexAt, Instr.sureAddr, run_asIntOf, run_und ht, h0, h1, run_sz hti, add_addr hsp]

/-! New variables. -/

theorem os_box {t : TypeId} {x : Operand} {cs : List GV} (ho : o.op = .box t x) (hx : gcells (ρ x) = some cs) : OpS P o ρ nb M0 [] (.adr nb 0 0) [] [.cells cs] := by
  refine .make fun Γ D ι M w ac hS hV _ hn => ?_
  obtain ⟨h1, hf, hr⟩ := gcells_sound (hV x (by simp [ho, Op.operands])) hx
  refine ⟨⟨some w.heap.size, 0, 0, 0⟩, .pointer (some ⟨w.heap.size, 0, none⟩), w.alloc (.cells (ac.eval x).cells t), ?_, rfl, rfl, rfl, by simp, fun b hb => heap_alloc_old w _ hb, fun b hb => by simp at hb; omega, fun D' ι' hD hDn hι hιn => ⟨?_, ?_⟩⟩
  · simp [execOp, ho, Instr.box, newVar, newRow]
  · refine ⟨rfl, w.heap.size, _, t, rfl, heap_alloc_new w _, h1, fun i hi => ?_, fun j g hg => ?_⟩
    · have e : (ac.eval x).cells.getD i undef = (ac.eval x).cells.toList[i]'(by simpa using hi) := by simp [hi]
      rw [e]; exact hf _ (List.getElem_mem _)
    · exact (hr j g hg).mono (fun _ h => h) (fun _ h => h) hD hι (fun b hb => heap_alloc_old w _ (hS.lt b (hb.elim .inl fun x => .inr (.inl x))))
  · have := VR.adr (Im := Γ.Im) (Bw := Γ.Bw) (D := D') (ι := ι') (w := w.alloc (.cells (ac.eval x).cells t)) nb 0 0 w.heap.size hDn (by rw [hιn])
    simpa [hιn] using this

def flatAll (v : Value) : Bool := v.cells.toList.all flat

theorem os_alloc {t : TypeId} {z : Value} (ho : o.op = .alloc t) (hz : zeroOf P t = some z) (hf : flatAll z = true) : OpS P o ρ nb M0 [] (.adr nb 0 0) [] [.cells (z.cells.toList.map .lit)] := by
  refine .make fun Γ D ι M w ac hS hV _ hn => ?_
  have hzv : (zeroValue t).run P w = .ok z w := by
    unfold zeroOf at hz
    cases hi : P.info? t with
    | none => simp [hi] at hz
    | some i => simp [hi] at hz; simp [zeroValue, typeInfo, hi, hz]
  refine ⟨⟨some w.heap.size, 0, 0, 0⟩, .pointer (some ⟨w.heap.size, 0, none⟩), w.alloc (.cells z.cells t), ?_, rfl, rfl, rfl, by simp, fun b hb => heap_alloc_old w _ hb, fun b hb => by simp at hb; omega, fun D' ι' hD hDn hι hιn => ⟨?_, ?_⟩⟩
  · simp [execOp, ho, Instr.alloc, hzv, newVar, newRow]
  · refine ⟨rfl, w.heap.size, _, t, rfl, heap_alloc_new w _, by simp, fun i hi => ?_, fun j g hg => ?_⟩
    · have e : z.cells.getD i undef = z.cells.toList[i]'(by simpa using hi) := by simp [hi]
      rw [e]; exact List.all_eq_true.1 hf _ (List.getElem_mem _)
    · simp only [List.getElem?_map, Array.getElem?_toList, Option.map_eq_some_iff] at hg
      obtain ⟨u, hu, rfl⟩ := hg
      have : z.cells.getD j undef = u := by simp [hu]
      rw [this]; exact .litv u
  · have := VR.adr (Im := Γ.Im) (Bw := Γ.Bw) (D := D') (ι := ι') (w := w.alloc (.cells z.cells t)) nb 0 0 w.heap.size hDn (by rw [hιn])
    simpa [hιn] using this

end
end Go.Gh
