import Derived.Test.YtoamjccphppdmaaGhZc

/-! Bytes as a string; rows made; what is appended in place. -/

namespace Go.Gh
variable {P : Program}

def strOf (l : List Int) : ByteArray := l.foldl (fun r n => r.push (UInt8.ofNat n.toNat)) ByteArray.empty
def bG (n : Int) : List GV := [.lit (.int .u8 n)]
def gbytes : List (List GV) → Option (List Int)
  | [] => some []
  | [.lit (.int .u8 n)] :: l => (gbytes l).map (n :: ·)
  | _ => none

theorem gbytes_map : ∀ l : List Int, gbytes (l.map bG) = some l
  | [] => rfl
  | n :: l => by simp [gbytes, bG, gbytes_map l]

theorem gbytes_get : ∀ {xs : List (List GV)} {l : List Int}, gbytes xs = some l → xs = l.map bG
  | [], l, h => by simp only [gbytes, Option.some.injEq] at h; subst h; rfl
  | x :: xs, l, h => by
    unfold gbytes at h
    split at h
    · cases ‹x :: xs = []›
    · rename_i n l' e
      cases e
      obtain ⟨r, hr, rfl⟩ := Option.map_eq_some_iff.1 h
      rw [List.map_cons, ← gbytes_get hr]; rfl
    · cases h

theorem VP.lit_inv {Im : Nat → Prop} {w : World} {v u : Value} (h : VP Im w (.lit v) u) : u = v := by cases h; rfl

section
variable {o : Oper} {ρ : Rho} {nb : Nat} {M0 : Nat → GO} {Im Bw D : Nat → Prop} {ι : Nat → Hd} {w : World}

theorem os_str {src dst e : Nat} {x : Operand} {xs : List (List GV)} {l : List Int} (ho : o.op = .convert src dst x) (hs : P.underlying src = some (.slice e)) (he : P.underlying e = some (.int .u8)) (hd : P.underlying dst = some .string)
    (hx : srcOf M0 1 (ρ x) = some xs) (hb : gbytes xs = some l) : OpS P o ρ nb M0 (gid (ρ x)) (.lit (.string (strOf l))) [] [] := by
  refine .quiet fun Γ D ι M w ac hS hV hM => ⟨_, .litv _, ?_⟩
  obtain ⟨A, c, news, hsr⟩ := srcOf_sound (by omega) hx Γ D ι M w _ hS (hV x (by simp [ho, Op.operands])) hM
  have hxs := gbytes_get hb
  have hlen : news.length = l.length := by rw [hsr.len, hxs]; simp
  have hnews : news = l.map (Value.int .u8) := by
    apply List.ext_getElem?
    intro i
    by_cases hi : i < l.length
    · have h1 : xs[i]? = some (bG l[i]) := by rw [hxs]; simp [hi]
      have h2 := (hsr.rel i 0 (bG l[i]) (.lit (.int .u8 l[i])) h1 rfl).lit_inv
      rw [Nat.mul_one, Nat.add_zero, List.getD_eq_getElem?_getD, List.getElem?_eq_getElem (by omega)] at h2
      rw [List.getElem?_eq_getElem (by omega), List.getElem?_map, List.getElem?_eq_getElem hi]
      simpa using h2
    · rw [List.getElem?_eq_none (by omega), List.getElem?_eq_none (by simp; omega)]
  have hval := hsr.val
  simp only [execOp, ho, hval, Sem.run_bind, run_convert_bytes_string w src dst e A xs.length c hs he hd]
  cases A with
  | none =>
    have h0 := (hsr.nil rfl).1
    have hl0 : l = [] := by rw [hxs] at h0; simpa using h0
    subst hl0
    simp [Conv.bytesToString, strOf]
  | some a =>
    have hload : (loadCells a xs.length).run P w = .ok (l.map (Value.int .u8)).toArray w := by
      have := run_loadCells_list (P := P) w a news fun j v hj => by
        obtain ⟨a', ha, h⟩ := hsr.cell j v hj
        cases ha; exact h
      rw [hlen, hnews] at this
      have e : xs.length = l.length := by rw [hxs]; simp
      rw [e]; exact this
    rw [run_bytesToString w a xs.length c l hload]
    simp [strOf]

/-! Rows made. -/

theorem madeCells_toList {z : Array Value} {sz : Nat} (hz : z.size = sz) (hp : 0 < sz) (n : Nat) : (madeCells z (n * sz)).toList = (List.replicate n z.toList).flatten := by
  have := range_mod (fun k => z[k]!) sz hp n
  rw [madeCells, Array.toList_map, Array.toList_range, hz, this]
  congr 2
  apply List.ext_getElem?
  intro k
  by_cases hk : k < sz
  · simp [hk, hz]
  · simp [hk, hz]

theorem made_OR {V Vp : GV → Value → Prop} (hlit : ∀ v, Vp (.lit v) v) {z : Value} {e sz n : Nat} (hzs : z.cells.size = sz) (hpos : 0 < sz) (hf : flatAll z = true) (hn : n ≤ maxLen) :
    OR V Vp (w.alloc (.cells (madeCells z.cells (n * sz)) e)) ⟨some w.heap.size, sz, n, n⟩ (.row e sz (List.replicate n (z.cells.toList.map .lit))) := by
  have hz0 := madeCells_toList hzs hpos n
  have hxl : ∀ x, x ∈ List.replicate n (z.cells.toList.map GV.lit) → x.length = sz := fun x hx => by
    rw [List.mem_replicate] at hx
    rw [hx.2]; simpa using hzs
  refine ⟨rfl, by simp, hxl, (madeCells z.cells (n * sz)).toList, ⟨by simp [size_madeCells], .inr ⟨w.heap.size, n, _, ?_, Nat.zero_le _, heap_alloc_new w _, by simp, hn, size_madeCells _ _, ?_⟩⟩, fun v hv => ?_, fun i j x g hx hg => ?_⟩
  · simp [Hd.val]
  · rw [List.length_replicate, List.take_of_length_le (by simp [size_madeCells])]
  · rw [hz0] at hv
    simp only [List.mem_flatten, List.mem_replicate] at hv
    obtain ⟨l, ⟨_, rfl⟩, hu⟩ := hv
    exact List.all_eq_true.1 hf v hu
  · rw [List.getElem?_replicate] at hx
    split at hx
    · rename_i hi
      cases hx
      rw [List.getElem?_map, Option.map_eq_some_iff] at hg
      obtain ⟨u, hu, rfl⟩ := hg
      have h2 : (List.replicate n z.cells.toList).flatten[i * sz + j]? = some u :=
        flatten_get (x := z.cells.toList) (fun y hy => by rw [List.mem_replicate] at hy; rw [hy.2]; simpa using hzs) (by rw [List.getElem?_replicate, if_pos hi]) hu
      rw [hz0, List.getD_eq_getElem?_getD, h2]
      exact hlit u
    · cases hx

theorem os_mk {t e sz bytes : Nat} {z : Value} {lx cx : Operand} {kl kc : IntKind} {l c : Int} (ho : o.op = .makeSlice t lx cx) (hT : ElemT P t e sz bytes) (hz : zeroOf P e = some z) (hf : flatAll z = true)
    (hl : ρ lx = .lit (.int kl l)) (hc : ρ cx = .lit (.int kc c)) (h0 : 0 ≤ l) (h1 : l ≤ c) (hb : (bytes : Int) * c ≤ 281474976710656) (h63 : c ≤ 140737488355328) :
    OpS P o ρ nb M0 [] (.win nb 0 l.toNat) [] [.row e sz (List.replicate c.toNat (z.cells.toList.map .lit))] := by
  refine .make fun Γ D ι M w ac hS hV _ hn => ?_
  obtain ⟨i, zv, hi, hzv, hsz, hby, hzs⟩ := hT.info
  have hzz : zv = z := by unfold zeroOf at hz; simp [hi, hzv] at hz; exact hz
  subst hzz
  have e1 := (hl ▸ hV lx (by simp [ho, Op.operands])).lit_inv
  have e2 := (hc ▸ hV cx (by simp [ho, Op.operands])).lit_inv
  have hr := run_make (P := P) w t e i zv hT.und hi hzv kl kc l c h0 h1 (by rw [hby]; exact hb) (by omega)
  rw [hsz] at hr
  have hrun : (execOp ac.eval o).run P w = .ok (.value (.slice (some ⟨w.heap.size, 0, none⟩) l.toNat c.toNat)) (w.alloc (.cells (madeCells zv.cells (c.toNat * sz)) e)) := by
    simp only [execOp, ho, e1, e2, Sem.run_bind, hr, Result.andThen_ok, Sem.run_pure]
  refine ⟨⟨some w.heap.size, sz, c.toNat, c.toNat⟩, _, _, hrun, rfl, rfl, rfl, by simp, fun b hb => heap_alloc_old w _ hb, fun b hb => by simp at hb; omega, fun D' ι' hD hDn hι hιn => ⟨?_, ?_⟩⟩
  · exact made_OR (V := VR Γ.Im Γ.Bw D' ι' (w.alloc (.cells (madeCells zv.cells (_ * sz)) e))) (Vp := VP Γ.Im (w.alloc (.cells (madeCells zv.cells (_ * sz)) e))) (fun v => VP.lit v) hzs hT.pos hf (by simp [maxLen]; omega)
  · have := VR.win (Im := Γ.Im) (Bw := Γ.Bw) (D := D') (ι := ι') (w := w.alloc (.cells (madeCells zv.cells (c.toNat * sz)) e)) nb 0 l.toNat hDn (some ⟨w.heap.size, 0, none⟩) (by omega) (by rw [hιn]; show l.toNat ≤ c.toNat; omega) (by rw [hιn]; exact ⟨rfl, by show c.toNat ≤ maxLen; simp only [maxLen]; omega⟩)
      (fun h => by cases h) (fun ad h => by cases h; rfl) (fun _ => ⟨w.heap.size, by rw [hιn], by simp⟩)
    rw [hιn] at this
    simpa using this

theorem os_mkRow {t e sz bytes : Nat} {z : Value} {lx cx : Operand} {kl kc : IntKind} {l : Int} (ho : o.op = .makeSlice t lx cx) (hT : ElemT P t e sz bytes) (hz : zeroOf P e = some z) (hf : flatAll z = true)
    (hl : ρ lx = .lit (.int kl l)) (hc : ρ cx = .lit (.int kc l)) (h0 : 0 ≤ l) (hb : (bytes : Int) * l ≤ 281474976710656) (h63 : l ≤ 140737488355328) :
    OpS P o ρ nb M0 [] (.row nb) [] [.row e sz (List.replicate l.toNat (z.cells.toList.map .lit))] := by
  refine .make fun Γ D ι M w ac hS hV _ hn => ?_
  obtain ⟨i, zv, hi, hzv, hsz, hby, hzs⟩ := hT.info
  have hzz : zv = z := by unfold zeroOf at hz; simp [hi, hzv] at hz; exact hz
  subst hzz
  have e1 := (hl ▸ hV lx (by simp [ho, Op.operands])).lit_inv
  have e2 := (hc ▸ hV cx (by simp [ho, Op.operands])).lit_inv
  have hr := run_make (P := P) w t e i zv hT.und hi hzv kl kc l l h0 (Int.le_refl _) (by rw [hby]; exact hb) (by omega)
  rw [hsz] at hr
  have hrun : (execOp ac.eval o).run P w = .ok (.value (.slice (some ⟨w.heap.size, 0, none⟩) l.toNat l.toNat)) (w.alloc (.cells (madeCells zv.cells (l.toNat * sz)) e)) := by
    simp only [execOp, ho, e1, e2, Sem.run_bind, hr, Result.andThen_ok, Sem.run_pure]
  refine ⟨⟨some w.heap.size, sz, l.toNat, l.toNat⟩, _, _, hrun, rfl, rfl, rfl, by simp, fun b hb => heap_alloc_old w _ hb, fun b hb => by simp at hb; omega, fun D' ι' hD hDn hι hιn => ⟨?_, ?_⟩⟩
  · exact made_OR (V := VR Γ.Im Γ.Bw D' ι' (w.alloc (.cells (madeCells zv.cells (_ * sz)) e))) (Vp := VP Γ.Im (w.alloc (.cells (madeCells zv.cells (_ * sz)) e))) (fun v => VP.lit v) hzs hT.pos hf (by simp [maxLen]; omega)
  · have := VR.row (Im := Γ.Im) (Bw := Γ.Bw) (D := D') (ι := ι') (w := w.alloc (.cells (madeCells zv.cells (l.toNat * sz)) e)) nb hDn
    rw [hιn] at this
    simpa using this

/-! What writes into one object, and yields a value. -/

theorem OpS.wr {g : GV} {ids : List Nat} {id : Nat} {ob : GO} (hid : M0 id ≠ .dead) (hin : id ∈ ids)
    (h : ∀ (Γ : Ctx) (D : Nat → Prop) (ι : Nat → Hd) (M : Nat → GO) (w : World) (a : Act), SR Γ D ι M w →
      (∀ x, x ∈ o.op.operands → VR Γ.Im Γ.Bw D ι w (ρ x) (a.eval x)) → (∀ id, id ∈ ids → M id = M0 id) →
      ∃ (v' : Value) (w' : World), ((execOp a.eval o).run P w = .ok (.value v') w') ∧ w'.os = w.os ∧ w'.tape = w.tape ∧ w'.output = w.output ∧
        w.heap.size ≤ w'.heap.size ∧ (∀ b, (ι id).A ≠ some b → w'.heap[b]? = w.heap[b]?) ∧
        ((∀ g v, VR Γ.Im Γ.Bw D ι w g v → VR Γ.Im Γ.Bw D ι w' g v) → (∀ g v, VP Γ.Im w g v → VP Γ.Im w' g v) → OR (VR Γ.Im Γ.Bw D ι w') (VP Γ.Im w') w' (ι id) ob ∧ VR Γ.Im Γ.Bw D ι w' g v')) : OpS P o ρ nb M0 ids g [(id, ob)] [] := by
  intro Γ D ι M w a K Q hS hV hM _ hk
  have hMi := hM id hin
  obtain ⟨v', w', hr, h1, h2, h3, h4, h5, h6⟩ := h Γ D ι M w a hS hV hM
  have hld : M id ≠ .dead := by rw [hMi]; exact hid
  have hkp : Keep Γ w w' := ⟨h1, h2, h3, h4, fun b hb => h5 b fun e => hS.own id b hld e hb⟩
  have hVR : ∀ g v, VR Γ.Im Γ.Bw D ι w g v → VR Γ.Im Γ.Bw D ι w' g v := fun g v hv =>
    hv.mono (fun _ h => h) (fun _ h => h) (fun _ h => h) (fun _ _ => rfl) fun b hb => hkp.block b (hb.elim .inl fun x => .inr (.inl x))
  obtain ⟨h7, h8⟩ := h6 hVR fun g v hv => hv.mono (fun _ h => h) fun b hb => hkp.block b (.inl hb)
  have := hk Γ.Im ι v' w' hkp (fun _ h => h) (fun _ _ => rfl)
  rw [updF_one, dom_nil] at this
  unfold Oper.wp
  rw [hr]
  exact this (hS.put hld h4 (fun b hb _ => h5 b hb) h7) h8

/-- Cells laid over others, element by element. -/
theorem spl_rel {V : GV → Value → Prop} {sz hi : Nat} {xs ys : List (List GV)} {cs news : List Value} (hz : ∀ x, x ∈ xs → x.length = sz) (hzy : ∀ y, y ∈ ys → y.length = sz) (hcs : cs.length = xs.length * sz) (hns : news.length = ys.length * sz)
    (hfit : hi + ys.length ≤ xs.length)
    (h1 : ∀ (i j : Nat) x g, xs[i]? = some x → x[j]? = some g → V g (cs.getD (i * sz + j) undef)) (h2 : ∀ (i j : Nat) y g, ys[i]? = some y → y[j]? = some g → V g (news.getD (i * sz + j) undef)) :
    ∀ (i j : Nat) x g, (spl xs hi ys)[i]? = some x → x[j]? = some g → V g ((spl cs (hi * sz) news).getD (i * sz + j) undef) := by
  have hfit2 : hi * sz + news.length ≤ cs.length := by rw [hcs, hns, ← Nat.add_mul]; exact Nat.mul_le_mul_right _ hfit
  intro i j x g hx hg
  rw [spl_get xs hi ys hfit] at hx
  rw [List.getD_eq_getElem?_getD, spl_get cs (hi * sz) news hfit2]
  split at hx
  · rename_i hc
    have hxl := hzy x (List.mem_of_getElem? hx)
    have hj : j < sz := by rw [← hxl]; exact (List.getElem?_eq_some_iff.1 hg).1
    have h3 : hi * sz ≤ i * sz := Nat.mul_le_mul_right _ hc.1
    have h4 : i * sz + j < (hi + ys.length) * sz := grid_lt hc.2 hj
    rw [Nat.add_mul, ← hns] at h4
    rw [if_pos ⟨by omega, h4⟩, show i * sz + j - hi * sz = (i - hi) * sz + j by rw [Nat.sub_mul]; omega, ← List.getD_eq_getElem?_getD]
    exact h2 _ _ x g hx hg
  · rename_i hc
    have hxl := hz x (List.mem_of_getElem? hx)
    have hj : j < sz := by rw [← hxl]; exact (List.getElem?_eq_some_iff.1 hg).1
    rw [if_neg, ← List.getD_eq_getElem?_getD]
    · exact h1 i j x g hx hg
    · intro hh
      apply hc
      have h4 : i * sz + j < (hi + ys.length) * sz := by rw [Nat.add_mul, ← hns]; exact hh.2
      constructor
      · rcases Nat.lt_or_ge i hi with h | h
        · have : i * sz + j < hi * sz := grid_lt h hj
          omega
        · exact h
      · rcases Nat.lt_or_ge i (hi + ys.length) with h | h
        · exact h
        · have : (hi + ys.length) * sz ≤ i * sz := Nat.mul_le_mul_right _ h
          omega

theorem spl_mem {α : Type} {xs ys : List α} {hi : Nat} {x : α} (h : x ∈ spl xs hi ys) : x ∈ xs ∨ x ∈ ys := by
  unfold spl at h
  rcases List.mem_append.1 h with h | h
  · rcases List.mem_append.1 h with h | h
    · exact .inl (List.mem_of_mem_take h)
    · exact .inr h
  · exact .inl (List.mem_of_mem_drop h)

/-- 'append' in place. -/
theorem os_append_fit {t e sz bytes : Nat} (hT : ElemT P t e sz bytes) {x y : Operand} {id hi : Nat} {xs ys : List (List GV)}
    (ho : o.op = .call { callee := .builtin .append, args := #[x, y], argTypes := #[t, t] }) (hx : ρ x = .win id 0 hi) (hM0 : M0 id = .row e sz xs) (hy : srcOf M0 sz (ρ y) = some ys)
    (hfit : hi + ys.length ≤ xs.length) (hne : 0 < xs.length) :
    OpS P o ρ nb M0 (id :: gid (ρ y)) (.win id 0 (hi + ys.length)) [(id, .row e sz (spl xs hi ys))] [] := by
  obtain ⟨i, z, hi1, hi2, hi3, hi4, hi5⟩ := hT.info
  refine OpS.wr (by rw [hM0]; simp) (by simp) fun Γ D ι M w ac hS hV hM => ?_
  have hMi := hM id (by simp)
  have hob := hS.obj id
  rw [hMi, hM0] at hob
  obtain ⟨e0, e1, hz, cs, hown, hcf, hrel⟩ := hob
  obtain ⟨hD, _, hhn, hcn, A, hv, hA, hsp, hb⟩ := (hx ▸ hV x (by simp [ho, Op.operands, Call.operands])).win_inv
  obtain ⟨A', c', news, hsr⟩ := srcOf_sound hT.pos hy Γ D ι M w _ hS (hV y (by simp [ho, Op.operands, Call.operands])) (fun i hi => hM i (by simp [hi]))
  obtain ⟨b, hb1, hb2⟩ := hb (by omega)
  rw [Nat.zero_mul] at hb2
  rcases hown.2 with ⟨hh, hh2⟩ | ⟨g, cap, cur, hh, _, hg, hnc, hcm, hcs, htake⟩
  · omega
  · simp only [Hd.val, hb1, Option.map_some, Value.slice.injEq, Option.some.injEq, Addr.mk.injEq, and_true] at hh
    obtain ⟨rfl, hh2, hh3⟩ := hh
    have hcap : cap = xs.length := by omega
    subst hcap
    have hcur : cur.toList = cs := by rw [← htake, List.take_of_length_le (by simp [hcs])]
    have hfit2 : hi * sz + news.length ≤ cur.size := by rw [hsr.len, hcs, ← Nat.add_mul]; exact Nat.mul_le_mul_right _ hfit
    have hrun : (Builtin.append_ #[t, t] o.type #[ac.eval x, ac.eval y]).run P w = .ok (.slice (some ⟨b, 0, none⟩) (hi + ys.length) xs.length) (bif ys.isEmpty then w else w.setRow b (spl cur.toList (hi * sz) news).toArray) := by
      rw [hv, hb2, hsr.val]
      have hn0 : (ι id).n - 0 = xs.length := by omega
      rw [hn0, Nat.sub_zero]
      cases A' with
      | none =>
        obtain ⟨h0, h00⟩ := hsr.nil rfl
        have hy0 : ys = [] := List.eq_nil_of_length_eq_zero h0
        subst hy0
        simp [Builtin.append_, run_underlying hT.und, sizeOf, typeInfo, hi1, Builtin.lenOf, hhn, h00, Builtin.firstCells, storeCells, show hi ≤ xs.length by omega]
      | some a =>
        have hnews : ∀ j u, news[j]? = some u → w.cell? (a.add j) = some u := fun j u hu => by
          obtain ⟨a', ha, h⟩ := hsr.cell j u hu
          cases ha; exact h
        have := run_append_room (P := P) (w := w) t o.type e i hT.und hi1 b hi xs.length cur hg a ys.length c' news (by rw [hi3]; exact hsr.len) hnews (fun u hu => flat_oneCell (hsr.flt u hu)) hfit (by rw [hi3]; exact hfit2)
        rw [this, hi3]
        cases ys with
        | nil =>
          have hn : news = [] := List.eq_nil_of_length_eq_zero (by simpa using hsr.len)
          subst hn
          simp only [List.isEmpty_nil, cond_true, List.append_nil, List.length_nil, Nat.add_zero, List.take_append_drop, Array.toArray_toList]
          rw [setRow_self w b cur e (0, 0) hg]
        | cons y ys => rfl
    refine ⟨.slice (some ⟨b, 0, none⟩) (hi + ys.length) xs.length, (bif ys.isEmpty then w else w.setRow b (spl cur.toList (hi * sz) news).toArray), ?_, ?_⟩
    · obtain ⟨cc, hrc⟩ := run_call_builtin (P := P) (w := w) (a := ac) ho
      rw [hrc]
      simp only [List.map_toArray, List.map_cons, List.map_nil, builtin, Sem.run_bind, hrun, Result.andThen_ok, Sem.run_pure]
    · have hcsl : cs.length = xs.length * sz := hown.1
      have hw' : (bif ys.isEmpty then w else w.setRow b (spl cur.toList (hi * sz) news).toArray).heap[b]? = some (.cells (spl cs (hi * sz) news).toArray e (0, 0)) := by
        cases ys with
        | nil =>
          have hn : news = [] := List.eq_nil_of_length_eq_zero (by simpa using hsr.len)
          subst hn
          simp only [List.isEmpty_nil, cond_true, hg, spl, List.append_nil, List.length_nil, Nat.add_zero, List.take_append_drop, ← hcur, Array.toArray_toList]
        | cons y ys =>
          simp only [List.isEmpty_cons, cond_false, hcur]
          exact setRow_heap w b cur _ e _ hg
      have hsplL : (spl xs hi ys).length = xs.length := spl_length xs hi ys hfit
      have hsplC : (spl cs (hi * sz) news).length = cs.length := spl_length cs _ _ (by rw [hcsl, hsr.len, ← Nat.add_mul]; exact Nat.mul_le_mul_right _ hfit)
      refine ⟨by cases ys.isEmpty <;> rfl, by cases ys.isEmpty <;> rfl, by cases ys.isEmpty <;> rfl, by cases ys.isEmpty <;> simp [World.setRow], fun k hk => ?_, fun hVR hVP => ⟨⟨e0, by rw [hsplL]; exact e1, fun x hx => ?_, spl cs (hi * sz) news, ?_, fun v hv => ?_, ?_⟩, ?_⟩⟩
      · rw [hb1] at hk
        cases ys.isEmpty
        · exact setRow_other w b k _ fun h => hk (by rw [h])
        · rfl
      · exact (spl_mem hx).elim (hz x) (hsr.esz x)
      · refine ⟨by rw [hsplC, hsplL]; exact hcsl, .inr ⟨b, xs.length, _, ?_, Nat.zero_le _, hw', by rw [hsplL]; exact Nat.le_refl _, hcm, by simp [hsplC, hcsl], ?_⟩⟩
        · rw [hsplL]
          simp only [Hd.val, hb1, Option.map_some, Value.slice.injEq, true_and]
          omega
        · rw [hsplL, List.take_of_length_le (by simp [hsplC, hcsl])]
      · exact (spl_mem hv).elim (hcf v) (hsr.flt v)
      · exact spl_rel hz hsr.esz hcsl hsr.len hfit (fun i j x g hx hg => hVP _ _ (hrel i j x g hx hg)) fun i j y g hy hg => hVP _ _ (hsr.rel i j y g hy hg)
      · have := VR.win (Im := Γ.Im) (Bw := Γ.Bw) (D := D) (ι := ι) (w := (bif ys.isEmpty then w else w.setRow b (spl cur.toList (hi * sz) news).toArray)) id 0 (hi + ys.length) hD (some ⟨b, 0, none⟩) (by omega) (by omega) hcn (fun h => by cases h) (fun ad h => by cases h; rfl) (fun _ => ⟨b, hb1, by simp⟩)
        rwa [show (ι id).n - 0 = xs.length by omega, Nat.sub_zero] at this

end
end Go.Gh
