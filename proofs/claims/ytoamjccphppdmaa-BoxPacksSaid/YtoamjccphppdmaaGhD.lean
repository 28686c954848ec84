import Derived.Test.YtoamjccphppdmaaGhC

namespace Go.Gh

def spl {α : Type} (l : List α) (off : Nat) (us : List α) : List α := l.take off ++ us ++ l.drop (off + us.length)

theorem spl_get {α : Type} (l : List α) (off : Nat) (us : List α) (h : off + us.length ≤ l.length) (k : Nat) :
    (spl l off us)[k]? = if off ≤ k ∧ k < off + us.length then us[k - off]? else l[k]? := by
  unfold spl
  rw [List.append_assoc, List.getElem?_append, List.length_take, Nat.min_eq_left (by omega)]
  by_cases h1 : k < off
  · rw [if_pos h1, if_neg (by omega), List.getElem?_take, if_pos h1]
  · rw [if_neg h1, List.getElem?_append]
    by_cases h2 : k < off + us.length
    · rw [if_pos (by omega), if_pos (by omega)]
    · rw [if_neg (by omega), if_neg (by omega), List.getElem?_drop]
      congr 1; omega

theorem spl_length {α : Type} (l : List α) (off : Nat) (us : List α) (h : off + us.length ≤ l.length) : (spl l off us).length = l.length := by
  unfold spl; simp; omega

theorem spl_take {α : Type} (l : List α) (off : Nat) (us : List α) (m : Nat) (hm : m ≤ l.length) (h : off + us.length ≤ m) : (spl l off us).take m = spl (l.take m) off us := by
  apply List.ext_getElem?
  intro k
  rw [List.getElem?_take, spl_get l off us (by omega), spl_get (l.take m) off us (by simp; omega), List.getElem?_take]
  split
  · rfl
  · rw [if_neg (by omega)]

theorem storeCells_run {P : Program} {w : World} {b o : Nat} {t : TypeId} {arr : Array Value} (us : List Value) (hg : w.heap[b]? = some (.cells arr t (0, 0)))
    (hfit : o + us.length ≤ arr.size) (hf : ∀ u, u ∈ us → flat u = true) :
    (storeCells ⟨b, o, none⟩ us 0).run P w = .ok () (w.setRow b (spl arr.toList o us).toArray) := by
  have := run_storeCells_at P b o t us 0 arr w hg (by simpa using hfit) (fun v hv => flat_oneCell (hf v hv))
  simpa [spl] using this

theorem OR.store {P : Program} {V Vp : GV → Value → Prop} {w : World} {hd : Hd} {o o' : GO} (h : OR V Vp w hd o) {i j : Nat} {vs : List GV} (hp : putAt o i j vs = some o')
    {b : Nat} (hb : hd.A = some b) (us : List Value) (hl : us.length = vs.length) (hf : ∀ u, u ∈ us → flat u = true) :
    ∃ w', (storeCells ⟨b, i * hd.sz + j, none⟩ us 0).run P w = .ok () w' ∧ w'.os = w.os ∧ w'.tape = w.tape ∧ w'.output = w.output ∧ w'.heap.size = w.heap.size ∧
      (∀ k, k ≠ b → w'.heap[k]? = w.heap[k]?) ∧
      ∀ V' Vp' : GV → Value → Prop, (∀ g v, V g v → V' g v) → (∀ g v, Vp g v → Vp' g v) → (∀ (k : Nat) g, vs[k]? = some g → V' g (us.getD k undef)) → (pureL vs = true → ∀ (k : Nat) g, vs[k]? = some g → Vp' g (us.getD k undef)) → OR V' Vp' w' hd o' := by
  cases o with
  | dead => cases hp
  | cells cs =>
    simp only [putAt] at hp
    split at hp
    · rename_i hfit
      simp only [Option.some.injEq] at hp
      subst hp
      obtain ⟨h0, b', arr, t, h1, h2, h3, h4, h5⟩ := h
      obtain rfl : b' = b := Option.some.inj (h1.symm.trans hb)
      have hfit' : j + us.length ≤ arr.size := by omega
      refine ⟨w.setRow b' (spl arr.toList j us).toArray, ?_, rfl, rfl, rfl, by simp [World.setRow], fun k hk => setRow_other w b' k _ hk, fun V' Vp' hV hP hu _ => ?_⟩
      · rw [h0]; simp only [Nat.mul_zero, Nat.zero_add]
        exact storeCells_run us h2 hfit' hf
      · have hg : ∀ k, k < arr.size → (spl arr.toList j us).toArray.getD k undef = if j ≤ k ∧ k < j + us.length then us.getD (k - j) undef else arr.getD k undef := fun k hk => by
          have := spl_get arr.toList j us (by simpa using hfit') k
          simp only [Array.getD_eq_getD_getElem?, List.getElem?_toArray, this]
          split <;> simp
        have hsz : (spl arr.toList j us).toArray.size = arr.size := by simp [spl_length arr.toList j us (by simpa using hfit')]
        refine ⟨h0, b', _, t, h1, setRow_heap w b' arr _ t _ h2, by rw [hsz, setMany_length]; exact h3, fun k hk => ?_, fun k g hk => ?_⟩
        · rw [hsz] at hk
          rw [hg k hk]
          by_cases hr : j ≤ k ∧ k < j + us.length
          · rw [if_pos hr]
            have : k - j < us.length := by omega
            have e : us.getD (k - j) undef = us[k - j] := by simp [this]
            rw [e]; exact hf _ (List.getElem_mem this)
          · rw [if_neg hr]; exact h4 k hk
        · have hk' : k < arr.size := by
            have := (List.getElem?_eq_some_iff.1 hk).1
            rw [setMany_length] at this; omega
          rw [setMany_get vs cs j k hfit] at hk
          rw [hg k hk', hl]
          by_cases hr : j ≤ k ∧ k < j + vs.length
          · rw [if_pos hr] at hk ⊢
            exact hu _ _ hk
          · rw [if_neg hr] at hk ⊢
            exact hV _ _ (h5 k g hk)
    · cases hp
  | row e sz xs =>
    simp only [putAt] at hp
    split at hp
    · rename_i x hx
      split at hp
      · rename_i hfit0
        obtain ⟨hfit, hpu⟩ := hfit0
        simp only [Option.some.injEq] at hp
        subst hp
        obtain ⟨h0, h1, hz, l, h2, hfl, h3⟩ := h
        have hi : i < xs.length := (List.getElem?_eq_some_iff.1 hx).1
        have hxl := hz x (List.mem_of_getElem? hx)
        have hend : i * sz + sz ≤ xs.length * sz := by
          calc i * sz + sz = (i + 1) * sz := by rw [Nat.add_mul, Nat.one_mul]
            _ ≤ xs.length * sz := Nat.mul_le_mul_right _ hi
        have hlen : l.length = xs.length * sz := h2.1
        rcases h2.2 with ⟨hv, hn⟩ | ⟨b', cap, cur, hv, _, hg, hnc, hcm, hcs, htake⟩
        · simp [Hd.val, hb] at hv
        · have hbb : b' = b ∧ hd.n = xs.length ∧ hd.c = cap := by simp [Hd.val, hb] at hv; exact ⟨hv.1.symm, hv.2⟩
          obtain ⟨rfl, _, hcap⟩ := hbb
          have hcur : xs.length * sz ≤ cur.size := by rw [hcs]; exact Nat.mul_le_mul_right _ hnc
          have hfit' : i * sz + j + us.length ≤ l.length := by omega
          have hfit2 : i * sz + j + us.length ≤ cur.size := by omega
          refine ⟨w.setRow b' (spl cur.toList (i * sz + j) us).toArray, ?_, rfl, rfl, rfl, by simp [World.setRow], fun k hk => setRow_other w b' k _ hk, fun V' Vp' hV hP _ hu' => ?_⟩
          · rw [h0]
            exact storeCells_run us hg hfit2 hf
          · have hg' : ∀ k, (spl l (i * sz + j) us).getD k undef = if i * sz + j ≤ k ∧ k < i * sz + j + us.length then us.getD (k - (i * sz + j)) undef else l.getD k undef := fun k => by
              have := spl_get l (i * sz + j) us hfit' k
              simp only [List.getD_eq_getElem?_getD, this]
              split <;> rfl
            refine ⟨h0, by simpa using h1, fun y hy => ?_, spl l (i * sz + j) us, ⟨by rw [spl_length l _ us hfit', List.length_set]; exact hlen, .inr ⟨b', cap, _, ?_, by omega, setRow_heap w b' cur _ e _ hg, by simpa using hnc, hcm, ?_, ?_⟩⟩, fun v hv' => ?_, ?_⟩
            · rcases List.mem_or_eq_of_mem_set hy with hy | rfl
              · exact hz y hy
              · rw [setMany_length]; exact hxl
            · rw [hv]; simp
            · simp [spl_length cur.toList _ us (by simpa using hfit2)]; exact hcs
            · rw [List.length_set, spl_take cur.toList _ us (xs.length * sz) (by simpa using hcur) (by omega), htake]
            · obtain ⟨k, hk, rfl⟩ := List.mem_iff_getElem.1 hv'
              have e : (spl l (i * sz + j) us)[k] = (spl l (i * sz + j) us).getD k undef := by simp [hk]
              rw [spl_length l _ us hfit'] at hk
              rw [e, hg' k]
              split
              · rename_i hr
                have : k - (i * sz + j) < us.length := by omega
                have e : us.getD (k - (i * sz + j)) undef = us[k - (i * sz + j)] := by simp [this]
                rw [e]; exact hf _ (List.getElem_mem this)
              · have e : l.getD k undef = l[k] := by simp [hk]
                rw [e]; exact hfl _ (List.getElem_mem hk)
            · intro i' j' x' g hx' hgj
              rw [hg']
              by_cases hii : i' = i
              · subst hii
                rw [List.getElem?_set_self (by omega)] at hx'
                simp only [Option.some.injEq] at hx'
                subst hx'
                rw [setMany_get vs x j j' hfit] at hgj
                split at hgj
                · rename_i hr
                  rw [if_pos (by omega)]
                  have : i' * sz + j' - (i' * sz + j) = j' - j := by omega
                  rw [this]
                  exact hu' hpu _ _ hgj
                · rename_i hr
                  rw [if_neg (by omega)]
                  exact hP _ _ (h3 i' j' x g hx hgj)
              · rw [List.getElem?_set_ne (Ne.symm hii)] at hx'
                have hx'l := hz x' (List.mem_of_getElem? hx')
                have hj' : j' < sz := by rw [← hx'l]; exact (List.getElem?_eq_some_iff.1 hgj).1
                rw [if_neg]
                · exact hP _ _ (h3 i' j' x' g hx' hgj)
                · intro hr
                  rcases Nat.lt_or_gt_of_ne hii with hlt | hlt
                  · have : i' * sz + sz ≤ i * sz := by
                      calc i' * sz + sz = (i' + 1) * sz := by rw [Nat.add_mul, Nat.one_mul]
                        _ ≤ i * sz := Nat.mul_le_mul_right _ hlt
                    omega
                  · have : i * sz + sz ≤ i' * sz := by
                      calc i * sz + sz = (i + 1) * sz := by rw [Nat.add_mul, Nat.one_mul]
                        _ ≤ i' * sz := Nat.mul_le_mul_right _ hlt
                    omega
      · cases hp
    · cases hp

end Go.Gh
