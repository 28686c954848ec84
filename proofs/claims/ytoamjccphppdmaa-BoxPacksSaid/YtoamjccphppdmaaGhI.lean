import Derived.Test.YtoamjccphppdmaaGhH

namespace Go.Gh
section
variable {P : Program} {o : Oper} {ρ : Rho} {nb : Nat} {M0 : Nat → GO}
variable {Im Bw D : Nat → Prop} {ι : Nat → Hd} {w : World}

/-- What is appended: a slice's value, and its cells. -/
structure Src (V : GV → Value → Prop) (w : World) (u : Value) (sz : Nat) (ys : List (List GV)) (A : Option Addr) (c : Nat) (news : List Value) : Prop where
  val : u = .slice A ys.length c
  nil : A = none → ys.length = 0 ∧ c = 0
  cb : c ≤ maxLen
  len : news.length = ys.length * sz
  esz : ∀ y, y ∈ ys → y.length = sz
  cell : ∀ (j : Nat) v, news[j]? = some v → ∃ a, A = some a ∧ w.cell? (a.add j) = some v
  flt : ∀ v, v ∈ news → flat v = true
  rel : ∀ (i j : Nat) y g, ys[i]? = some y → y[j]? = some g → V g (news.getD (i * sz + j) undef)

theorem grid_lt {i j n sz : Nat} (hi : i < n) (hj : j < sz) : i * sz + j < n * sz := by
  calc i * sz + j < i * sz + sz := by omega
    _ = (i + 1) * sz := by rw [Nat.add_mul, Nat.one_mul]
    _ ≤ n * sz := Nat.mul_le_mul_right _ hi

theorem src_sl {bw : Bool} {sz : Nat} {xs ex : List (List GV)} {u : Value} (hsz : 0 < sz) (h : VR Im Bw D ι w (.sl bw sz xs ex) u) : ∃ A c news, Src (VP Im w) w u sz xs A c news := by
  obtain ⟨A, c, V, rfl, hc, hA, hs, hl, hcell⟩ := h.sl_inv
  have hg : ∀ k, k < xs.length * sz → ((List.range (xs.length * sz)).map fun k => V (k / sz) (k % sz)).getD k undef = V (k / sz) (k % sz) := fun k hk => by simp [hk]
  have hk : ∀ k, k < xs.length * sz → ∃ x g, (xs ++ ex)[k / sz]? = some x ∧ x[k % sz]? = some g := fun k hk => by
    have h1 : k / sz < xs.length := Nat.div_lt_of_lt_mul (by rw [Nat.mul_comm]; exact hk)
    have h2 : k / sz < (xs ++ ex).length := by simp; omega
    have h3 : ((xs ++ ex)[k / sz]).length = sz := hl _ (List.getElem_mem h2)
    exact ⟨_, ((xs ++ ex)[k / sz])[k % sz]'(by rw [h3]; exact Nat.mod_lt _ hsz), List.getElem?_eq_getElem h2, List.getElem?_eq_getElem _⟩
  refine ⟨A, c, (List.range (xs.length * sz)).map fun k => V (k / sz) (k % sz), rfl, fun h => ⟨by have := hA h; omega, hA h⟩, hc.2, by simp, fun y hy => hl y (List.mem_append_left _ hy), fun j v hj => ?_, fun v hv => ?_, fun i j y g hy hj => ?_⟩
  · simp only [List.getElem?_map, Option.map_eq_some_iff] at hj
    obtain ⟨k, hk1, rfl⟩ := hj
    have hjk : j < xs.length * sz ∧ k = j := by
      rw [List.getElem?_eq_some_iff] at hk1
      obtain ⟨h1, h2⟩ := hk1
      simp at h1 h2
      exact ⟨h1, h2.symm⟩
    obtain ⟨hj, rfl⟩ := hjk
    obtain ⟨x, g, hx, hgx⟩ := hk k hj
    obtain ⟨ad, h1, _, h2, _⟩ := hcell _ _ x g hx hgx
    refine ⟨ad, h1, ?_⟩
    rw [add_addr ((hs ad h1).resolve_right fun h => by simp [h] at hx)]
    rwa [Nat.div_add_mod'] at h2
  · simp only [List.mem_map, List.mem_range] at hv
    obtain ⟨k, hk1, rfl⟩ := hv
    obtain ⟨x, g, hx, hgx⟩ := hk k hk1
    obtain ⟨_, _, _, _, h3, _⟩ := hcell _ _ x g hx hgx
    exact h3
  · have hi : i < xs.length := (List.getElem?_eq_some_iff.1 hy).1
    have hx : (xs ++ ex)[i]? = some y := by rw [List.getElem?_append_left hi]; exact hy
    have hyl : y.length = sz := hl y (List.mem_of_getElem? hx)
    have hjl : j < sz := by rw [← hyl]; exact (List.getElem?_eq_some_iff.1 hj).1
    obtain ⟨_, _, _, _, _, h4⟩ := hcell i j y g hx hj
    rw [hg _ (grid_lt hi hjl)]
    have e1 : (i * sz + j) / sz = i := by rw [Nat.mul_comm, Nat.mul_add_div hsz, Nat.div_eq_of_lt hjl, Nat.add_zero]
    have e2 : (i * sz + j) % sz = j := by rw [Nat.mul_comm, Nat.mul_add_mod, Nat.mod_eq_of_lt hjl]
    rw [e1, e2]
    exact h4

theorem src_nil (sz : Nat) : Src (VP Im w) w (.slice none 0 0) sz [] none 0 [] :=
  ⟨rfl, fun _ => ⟨rfl, rfl⟩, Nat.zero_le _, by simp, fun _ h => by simp at h, fun j v h => by simp at h, fun v h => by simp at h, fun i j y g h => by simp at h⟩

theorem row_cases {V Vp : GV → Value → Prop} {hd : Hd} {e sz : Nat} {xs : List (List GV)} (h : OR V Vp w hd (.row e sz xs)) :
    hd.sz = sz ∧ hd.n = xs.length ∧ (∀ x, x ∈ xs → x.length = sz) ∧ ∃ cs : List Value, w.ownsRow 0 e sz hd.val xs.length cs ∧ (∀ v, v ∈ cs → flat v = true) ∧
      (∀ (i j : Nat) x g, xs[i]? = some x → x[j]? = some g → Vp g (cs.getD (i * sz + j) undef)) ∧
      ((hd.A = none ∧ hd.n = 0 ∧ hd.c = 0) ∨ ∃ b, hd.A = some b ∧ (hd.n ≤ hd.c ∧ hd.c ≤ maxLen) ∧ ∀ j u, cs[j]? = some u → w.cell? ⟨b, j, none⟩ = some u) := by
  obtain ⟨h0, h1, hz, cs, h2, hf, h3⟩ := h
  refine ⟨h0, h1, hz, cs, h2, hf, h3, ?_⟩
  rcases h2.2 with ⟨hv, hn⟩ | ⟨b, cap, cur, hv, _, hg, hnc, hcm, _⟩
  · left
    unfold Hd.val at hv
    cases hA : hd.A with
    | none => simp [hA] at hv; exact ⟨rfl, hv.1, hv.2⟩
    | some b => simp [hA] at hv
  · right
    unfold Hd.val at hv
    cases hA : hd.A with
    | none => simp [hA] at hv
    | some b' =>
      simp [hA] at hv
      obtain ⟨rfl, hn', hc⟩ := hv
      refine ⟨b', rfl, by omega, fun j u hu => ?_⟩
      have := h2.cells (g := b') (by simp [Hd.val, hA, Value.ownBlock]) j u hu
      rwa [add_lit, Nat.zero_add] at this

theorem src_row {id e sz : Nat} {xs : List (List GV)} {u : Value} (h : VR Im Bw D ι w (.row id) u) (ho : OR (VR Im Bw D ι w) (VP Im w) w (ι id) (.row e sz xs)) : ∃ A c news, Src (VP Im w) w u sz xs A c news := by
  obtain ⟨hD, rfl⟩ := h.row_inv
  obtain ⟨h0, h1, hz, cs, h2, hf, h3, h4⟩ := row_cases ho
  refine ⟨(ι id).A.map fun b => ⟨b, 0, none⟩, (ι id).c, cs, by rw [← h1]; rfl, fun hn => ?_, by rcases h4 with ⟨_, _, h⟩ | ⟨_, _, h, _⟩ <;> omega, h2.1, hz, fun j v hj => ?_, hf, h3⟩
  · rcases h4 with ⟨hA, h5, h6⟩ | ⟨b, hA, _⟩
    · exact ⟨by omega, h6⟩
    · simp [hA] at hn
  · rcases h4 with ⟨hA, h5, h6⟩ | ⟨b, hA, _, h5⟩
    · have := h2.1
      have : cs = [] := List.eq_nil_of_length_eq_zero (by rw [this, ← h1, h5]; simp)
      simp [this] at hj
    · exact ⟨⟨b, 0, none⟩, by simp [hA], by rw [add_lit, Nat.zero_add]; exact h5 j v hj⟩

theorem src_sub {id e sz lo hi : Nat} {xs : List (List GV)} {u : Value} (h : VR Im Bw D ι w (.sub id lo hi) u) (ho : OR (VR Im Bw D ι w) (VP Im w) w (ι id) (.row e sz xs)) :
    ∃ A c news, Src (VP Im w) w u sz ((xs.drop lo).take (hi - lo)) A c news := by
  obtain ⟨hD, hle, hhi, A, c, rfl, hc, hA, hs, hb⟩ := h.sub_inv
  obtain ⟨h0, h1, hz, cs, h2, hf, h3, h4⟩ := row_cases ho
  have hlen : ((xs.drop lo).take (hi - lo)).length = hi - lo := by simp; omega
  refine ⟨A, c, (cs.drop (lo * sz)).take ((hi - lo) * sz), by rw [hlen], fun hn => ?_, hc.2, ?_, fun y hy => hz y (List.mem_of_mem_drop (List.mem_of_mem_take hy)), fun j v hj => ?_, fun v hv => hf v (List.mem_of_mem_drop (List.mem_of_mem_take hv)), fun i j y g hy hj => ?_⟩
  · exact ⟨by rw [hlen]; have := hA hn; omega, hA hn⟩
  · rw [hlen, List.length_take, List.length_drop, h2.1]
    have : lo * sz + (hi - lo) * sz ≤ xs.length * sz := by rw [← Nat.add_mul]; exact Nat.mul_le_mul_right _ (by omega)
    omega
  · rw [List.getElem?_take] at hj
    split at hj
    · rename_i hlt
      rw [List.getElem?_drop] at hj
      have hpos : lo < hi := by
        rcases Nat.lt_or_ge lo hi with h | h
        · exact h
        · have : hi - lo = 0 := by omega
          rw [this] at hlt; simp at hlt
      obtain ⟨b, hb1, hb2⟩ := hb hpos
      refine ⟨_, hb2, ?_⟩
      rcases h4 with ⟨hA', _⟩ | ⟨b', hA', _, h5⟩
      · rw [hA'] at hb1; cases hb1
      · obtain rfl : b' = b := Option.some.inj (hA'.symm.trans hb1)
        rw [add_lit, h0]
        exact h5 _ v hj
    · cases hj
  · rw [List.getElem?_take] at hy
    split at hy
    · rename_i hlt
      rw [List.getElem?_drop] at hy
      have := h3 _ _ y g hy hj
      have hyl := hz y (List.mem_of_getElem? hy)
      have hjl : j < sz := by rw [← hyl]; exact (List.getElem?_eq_some_iff.1 hj).1
      have e : ((cs.drop (lo * sz)).take ((hi - lo) * sz)).getD (i * sz + j) undef = cs.getD ((lo + i) * sz + j) undef := by
        simp only [List.getD_eq_getElem?_getD, List.getElem?_take, List.getElem?_drop]
        rw [if_pos (grid_lt hlt hjl)]
        congr 2
        rw [Nat.add_mul]; omega
      rw [e]; exact this
    · cases hy

theorem src_zl {sz : Nat} {u : Value} (h : VR Im Bw D ι w .zl u) : ∃ A c news, Src (VP Im w) w u sz [] A c news := by
  obtain ⟨A, rfl⟩ := h.zl_inv
  exact ⟨A, 0, [], rfl, fun _ => ⟨rfl, rfl⟩, Nat.zero_le _, by simp, fun _ h => by simp at h, fun j v h => by simp at h, fun v h => by simp at h, fun i j y g h => by simp at h⟩

/-- 'append', whatever is appended, onto a row of one's own. -/
theorem run_app {t ty e : TypeId} {i : TypeInfo} {z : Value} {size : Nat} (ht : P.underlying t = some (.slice e)) (hi : P.info? e = some i) (hz : i.zero = some z)
    (hsize : i.size = size) (hzs : z.cells.size = size) (hsz : 0 < size) {v : Value} {n : Nat} {xs : List Value} (hown : w.ownsRow 0 e size v n xs)
    {A : Option Addr} {m c : Nat} {news : List Value} (hA : A = none → m = 0 ∧ c = 0) (hl : news.length = m * size) (hnews : ∀ j u, news[j]? = some u → ∃ a, A = some a ∧ w.cell? (a.add j) = some u)
    (h1 : ∀ u, u ∈ news → flat u = true) (h63 : n + m ≤ maxLen) (hbytes : (n + m) * i.bytes ≤ 140737488355328) :
    ∃ v' w', (Builtin.append_ #[t, t] ty #[v, .slice A m c]).run P w = .ok v' w' ∧ w'.ownsRow 0 e size v' (n + m) (xs ++ news) ∧ w.grownBy w' v.ownBlock ∧
      (∀ b, v'.ownBlock = some b → w.heap.size ≤ b ∨ v.ownBlock = some b) ∧ w.heap.size ≤ w'.heap.size := by
  cases A with
  | none =>
    obtain ⟨rfl, rfl⟩ := hA rfl
    have hn : news = [] := List.eq_nil_of_length_eq_zero (by simpa using hl)
    subst hn
    refine ⟨v, w, run_append_owned_none w 0 t ty e i size ht hi v n xs hown, by simpa using hown, ⟨rfl, rfl, rfl, Nat.le_refl _, fun _ _ _ => rfl⟩, fun b hb => .inr hb, Nat.le_refl _⟩
  | some a =>
    have hnews' : ∀ j u, news[j]? = some u → w.cell? (a.add j) = some u := fun j u hu => by
      obtain ⟨a', ha, h⟩ := hnews j u hu
      cases ha; exact h
    have h1' : ∀ u ∈ news, u.oneCell' = true := fun u hu => flat_oneCell (h1 u hu)
    subst hsize
    have hsmall : n + m ≤ 9223372036854775807 := by simp only [maxLen] at h63; omega
    have hlen : (xs ++ news).length = (n + m) * i.size := by rw [List.length_append, hown.1, hl, Nat.add_mul]
    have grown : ∀ (old : Nat), (w.drew.alloc (.cells (xs.toArray ++ news.toArray ++ Builtin.zeroCells z.cells (grownCap w (n + m) old e - (n + m))) e)).ownsRow 0 e i.size
          (.slice (some ⟨w.heap.size, 0, none⟩) (n + m) (grownCap w (n + m) old e)) (n + m) (xs ++ news) := by
      intro old
      have hge := grownCap_ge w (n + m) old e
      have hcm := grownCap_le_maxLen w (n + m) old e h63
      refine ⟨hlen, .inr ⟨w.heap.size, _, _, rfl, Nat.zero_le _, heap_alloc_new w.drew _, hge, hcm, ?_, ?_⟩⟩
      · simp only [Array.size_append, List.size_toArray, size_zeroCells, hzs, hown.1, hl, ← Nat.add_mul]
        congr 1
        omega
      · simp only [Array.toList_append]
        rw [← hlen]
        exact List.take_left
    have grownB : ∀ (X : Array Value) (row : Option Nat), w.grownBy (w.drew.alloc (.cells X e)) row := fun X row =>
      ⟨rfl, rfl, rfl, by simp, fun k hk _ => heap_alloc_old w.drew _ hk⟩
    have own := hown.2
    rcases own with ⟨hv, hn⟩ | ⟨g, cap, cur, hv, hbg, hg, hnc, hcm, hcs, htake⟩
    · subst hv; subst hn
      have hx : xs = [] := List.eq_nil_of_length_eq_zero (by simpa using hown.1)
      subst hx
      by_cases hm : m = 0
      · subst hm
        have hn : news = [] := List.eq_nil_of_length_eq_zero (by simpa using hl)
        subst hn
        refine ⟨.slice none 0 0, w, ?_, World.ownsRow_nil w 0 e i.size, ⟨rfl, rfl, rfl, Nat.le_refl _, fun _ _ _ => rfl⟩, fun b hb => by simp [Value.ownBlock] at hb, Nat.le_refl _⟩
        simp [Builtin.append_, run_underlying ht, sizeOf, typeInfo, hi, Builtin.lenOf, Builtin.firstCells, loadCells, loadCellsFrom]
      · have hr := run_append_nil (P := P) w t ty e i z ht hi hz a m c news hl hnews' (by omega) (by omega) (by have hb := hbytes; simp only [Nat.zero_add] at hb; omega)
        have hgr := grown 0
        simp only [Nat.zero_add, List.nil_append, Array.empty_append] at hgr ⊢
        exact ⟨_, _, hr, hgr, grownB _ _, fun b hb => .inl (by simp [Value.ownBlock] at hb; omega), by simp⟩
    · subst hv
      by_cases hroom : n + m ≤ cap
      · have hfit : n * i.size + news.length ≤ cur.size := by rw [hl, hcs, ← Nat.add_mul]; exact Nat.mul_le_mul_right _ hroom
        have hr := run_append_room (P := P) w t ty e i ht hi g n cap cur hg a m c news hl hnews' h1' hroom hfit
        refine ⟨_, _, hr, ⟨hlen, .inr ⟨g, cap, _, rfl, hbg, setRow_heap w g cur _ e _ hg, hroom, hcm, ?_, ?_⟩⟩, ⟨rfl, rfl, rfl, by simp [World.setRow], fun k _ hk => setRow_other w g k _ (fun e => hk (by simp [Value.ownBlock, e]))⟩, fun b hb => .inr hb, by simp [World.setRow]⟩
        · simp only [List.size_toArray, List.length_append, List.length_take, List.length_drop, Array.length_toList]
          omega
        · rw [htake, ← hlen]
          exact List.take_left
      · have holds : ∀ j u, xs[j]? = some u → w.cell? ((⟨g, 0, none⟩ : Addr).add j) = some u := hown.cells (g := g) rfl
        have hr := run_append_grow (P := P) w t ty e i z ht hi hz ⟨g, 0, none⟩ n cap xs hown.1 holds a m c news hl hnews' (by omega) (by omega) (growslice_fits (by omega) hbytes)
        exact ⟨_, _, hr, grown cap, grownB _ _, fun b hb => .inl (by simp [Value.ownBlock] at hb; omega), by simp⟩

end
end Go.Gh
