import Derived.Test.YtoamjccphppdmaaGhV
import Derived.Deep.Slices
import Derived.OpenShut
import Derived.ChangeArms
import Derived.ChangeOld
import Derived.Carry
import Derived.SizedLaws
import Derived.RowKit
import Derived.OpenShut

/-! From what a row's arguments read as, to ghost values. -/

namespace Go.Gh
open Go.ChangeShapes Go.RowKit

/-- What a cell may be. -/
inductive LC where
  | int (k : IntKind)
  | bool
  | str
  | sl (b : Nat) (l : List LC)

mutual
def Rd : LC → GV → Prop
  | .int k, g => ∃ n, g = .lit (.int k n) ∧ k.min ≤ n ∧ n ≤ k.max
  | .bool, g => ∃ b, g = .lit (.bool b)
  | .str, g => ∃ s : ByteArray, g = .lit (.string s) ∧ s.size ≤ reachBytes
  | .sl b l, g => ∃ xs ex, g = .sl false l.length xs ex ∧ (xs.length + ex.length) * b ≤ reachBytes ∧ xs.length + ex.length ≤ maxLen ∧ ∀ x, x ∈ xs ++ ex → RdL l x
def RdL : List LC → List GV → Prop
  | [], gs => gs = []
  | c :: l, gs => ∃ g gs', gs = g :: gs' ∧ Rd c g ∧ RdL l gs'
end

theorem RdL.length : ∀ {l : List LC} {gs : List GV}, RdL l gs → gs.length = l.length
  | [], gs, h => by simp only [RdL] at h; subst h; rfl
  | c :: l, gs, h => by
    simp only [RdL] at h
    obtain ⟨g, gs', rfl, _, h⟩ := h
    simp [RdL.length h]

theorem RdL.append : ∀ {l l' : List LC} {gs gs' : List GV}, RdL l gs → RdL l' gs' → RdL (l ++ l') (gs ++ gs')
  | [], l', gs, gs', h, h' => by simp only [RdL] at h; subst h; exact h'
  | c :: l, l', gs, gs', h, h' => by
    simp only [RdL] at h
    obtain ⟨g, gs1, rfl, hg, h⟩ := h
    rw [List.cons_append, List.cons_append, RdL]
    exact ⟨g, _, rfl, hg, RdL.append h h'⟩

theorem RdL.one {c : LC} {g : GV} (h : Rd c g) : RdL [c] [g] := by
  rw [RdL]
  exact ⟨g, [], rfl, h, by rw [RdL]⟩

def leafsF (g : TypeId → Option (List LC)) (sz : TypeId → Nat) : Nat → List Field → Option (List LC)
  | _, [] => some []
  | off, f :: fs => if f.offset = off then (g f.type).bind fun l => if l.length = sz f.type then (leafsF g sz (off + l.length) fs).map (l ++ ·) else none else none

def leafs (P : Program) : Nat → TypeId → Option (List LC)
  | 0, _ => none
  | f + 1, t => match P.underlying t with
    | some .bool => some [.bool]
    | some (.int k) => some [.int k]
    | some .string => some [.str]
    | some (.slice e) => (leafs P f e).bind fun l => if l.length = P.cellsOf e ∧ 0 < l.length then some [.sl (P.bytesOf e) l] else none
    | some (.struct fs) => (leafsF (leafs P f) P.cellsOf 0 fs.toList).bind fun l => if l.length = P.cellsOf t then some l else none
    | some (.array n e) => (leafs P f e).bind fun l => if l.length = P.cellsOf e ∧ P.cellsOf t = n * l.length then some (List.replicate n l).flatten else none
    | _ => none

def Im0 (w : World) (b : Nat) : Prop := b < w.heap.size

structure Good (w : World) (Bw : Nat → Prop) (l : List LC) (cs : List Value) : Prop where
  len : cs.length = l.length
  flt : ∀ v, v ∈ cs → flat v = true
  ex : ∃ gs, RdL l gs ∧ ∀ (i : Nat) g, gs[i]? = some g → VP (Im0 w) w g (cs.getD i undef)

variable {w : World} {Bw : Nat → Prop}

theorem Good.nil : Good w Bw [] [] := ⟨rfl, fun _ h => by simp at h, [], by rw [RdL], fun i g h => by simp at h⟩

theorem Good.append {l l' : List LC} {cs cs' : List Value} (h : Good w Bw l cs) (h' : Good w Bw l' cs') : Good w Bw (l ++ l') (cs ++ cs') := by
  obtain ⟨e1, f1, gs, r1, v1⟩ := h
  obtain ⟨e2, f2, gs', r2, v2⟩ := h'
  refine ⟨by simp [e1, e2], fun v hv => (List.mem_append.1 hv).elim (f1 v) (f2 v), gs ++ gs', r1.append r2, fun i g hg => ?_⟩
  have hgl := r1.length
  by_cases hi : i < gs.length
  · rw [List.getElem?_append_left hi] at hg
    have := v1 i g hg
    rwa [List.getD_eq_getElem?_getD, List.getElem?_append_left (by omega), ← List.getD_eq_getElem?_getD]
  · rw [List.getElem?_append_right (by omega)] at hg
    have := v2 _ g hg
    rw [List.getD_eq_getElem?_getD, List.getElem?_append_right (by omega), ← List.getD_eq_getElem?_getD]
    rwa [show i - cs.length = i - gs.length by omega]

theorem Good.one {c : LC} {g : GV} {v : Value} (hr : Rd c g) (hf : flat v = true) (hv : VP (Im0 w) w g v) : Good w Bw [c] [v] :=
  ⟨rfl, fun u hu => by simp at hu; subst hu; exact hf, [g], .one hr, fun i g' hg => by
    cases i with
    | zero => simp at hg; subst hg; exact hv
    | succ i => simp at hg⟩

theorem take_drop_split {α : Type} (cs : List α) (off n : Nat) : cs.drop off = (cs.drop off).take n ++ cs.drop (off + n) := by
  rw [← List.drop_drop, List.take_append_drop]

section
variable {H : Type} {enc : TypeId × Value → H} {P : Program} {held : Bool}

theorem weightsAll_mem {e : TypeId} : ∀ {l : List (DataW H)} {d : DataW H} {n : Nat}, d ∈ l → n ∈ d.weights P e → n ∈ DataW.weightsAll P e l
  | [], d, n, h, _ => by simp at h
  | x :: l, d, n, h, hn => by
    rw [DataW.weightsAll]
    rcases List.mem_cons.1 h with rfl | h
    · exact List.mem_append_left _ hn
    · exact List.mem_append_right _ (weightsAll_mem h hn)

theorem cell_block {w : World} {a : Addr} {v : Value} (h : w.cell? a = some v) : a.block < w.heap.size := by
  unfold World.cell? at h
  by_cases hb : a.block < w.heap.size
  · exact hb
  · rw [Array.getElem?_eq_none (by omega)] at h; simp at h

theorem cell_spot {w : World} {a : Addr} {v : Value} (h : w.cell? a = some v) : a.spot = none := by
  unfold World.cell? at h
  split at h
  · cases hs : a.spot with
    | none => rfl
    | some s => rw [hs] at h; simp at h
  · cases h

theorem add_place {w : World} {a : Addr} {n : Nat} {v : Value} (h : w.cell? (a.add n) = some v) : w.cell? ⟨a.block, a.off + n, none⟩ = some v := by
  unfold Addr.add at h
  split at h
  · rename_i h0
    subst h0
    have := cell_spot h
    cases a with
    | mk b o s => simp only at this; subst this; simpa using h
  · exact h

theorem good_struct {fuel : Nat} {n : Nat} {cs : List Value} (fs : List Field) :
    ∀ (l : List LC) (off : Nat) (xs : List (DataW H × List MemPlace)), leafsF (leafs P fuel) P.cellsOf off fs = some l →
    (∀ (t : TypeId) l, leafs P fuel t = some l → ∀ (cs : List Value) (x : DataW H × List MemPlace), DataW.trod enc P w 0 (fun _ => true) held n t cs = some x →
      (∀ m, m ∈ x.1.weights P t → m ≤ reachBytes) → Good w Bw l cs) →
    cs.length = off + l.length → xs.length = fs.length →
    (∀ (i : Nat) (f : Field), fs[i]? = some f → DataW.trod enc P w 0 (fun _ => true) held n f.type ((cs.drop f.offset).take (P.cellsOf f.type)) = xs[i]?) →
    (∀ m, m ∈ DataW.weightsEach P (fs.map (·.type)) (xs.map (·.1)) → m ≤ reachBytes) → Good w Bw l (cs.drop off) := by
  induction fs with
  | nil =>
    intro l off xs h _ hl _ _ _
    simp only [leafsF, Option.some.injEq] at h
    subst h
    rw [List.drop_eq_nil_of_le (by simp at hl; omega)]
    exact .nil
  | cons f fs ih =>
    intro l off xs h IH hl hx ht hm
    simp only [leafsF] at h
    split at h
    · rename_i ho
      obtain ⟨l1, h1, h⟩ := Option.bind_eq_some_iff.1 h
      split at h
      · rename_i hs
        obtain ⟨l2, h2, rfl⟩ := Option.map_eq_some_iff.1 h
        cases xs with
        | nil => simp at hx
        | cons x xs =>
          have ht0 := ht 0 f rfl
          simp only [List.getElem?_cons_zero] at ht0
          rw [List.map_cons, List.map_cons, DataW.weightsEach] at hm
          have g1 := IH f.type l1 h1 _ x ht0 fun m h => hm m (List.mem_append_left _ h)
          rw [ho, ← hs] at g1
          rw [take_drop_split cs off l1.length]
          refine g1.append (ih l2 _ xs h2 IH (by simp at hl; omega) (by simpa using hx) (fun i f' hf => ?_) fun m h => hm m (List.mem_append_right _ h))
          have := ht (i + 1) f' (by simpa using hf)
          simpa using this
      · cases h
    · cases h

theorem good_array {l : List LC} {n e : Nat} {m : Nat} {cs : List Value} (hl : l.length = P.cellsOf e)
    (IH : ∀ (cs : List Value) (x : DataW H × List MemPlace), DataW.trod enc P w 0 (fun _ => true) held n e cs = some x → (∀ m, m ∈ x.1.weights P e → m ≤ reachBytes) → Good w Bw l cs) :
    ∀ (k i0 : Nat) (xs : List (DataW H × List MemPlace)), xs.length = m → i0 + k = m → cs.length = m * l.length →
    (∀ (i : Nat), i < m → DataW.trod enc P w 0 (fun _ => true) held n e ((cs.drop (i * P.cellsOf e)).take (P.cellsOf e)) = xs[i]?) →
    (∀ j, j ∈ DataW.weightsAll P e (xs.map (·.1)) → j ≤ reachBytes) → Good w Bw (List.replicate k l).flatten (cs.drop (i0 * l.length))
  | 0, i0, xs, _, hk, hc, _, _ => by
    rw [List.drop_eq_nil_of_le (by rw [hc]; exact Nat.mul_le_mul_right _ (by omega))]
    exact .nil
  | k + 1, i0, xs, hx, hk, hc, ht, hm => by
    rw [List.replicate_succ, List.flatten_cons, take_drop_split cs (i0 * l.length) l.length]
    have h0 := ht i0 (by omega)
    rw [List.getElem?_eq_getElem (by omega)] at h0
    rw [← hl] at h0
    refine Good.append (IH _ _ h0 fun j hj => hm j (weightsAll_mem (List.mem_map.2 ⟨_, List.getElem_mem _, rfl⟩) hj)) ?_
    have := good_array hl IH k (i0 + 1) xs hx (by omega) hc ht hm
    rwa [Nat.add_mul, Nat.one_mul] at this

theorem good_of : ∀ (fuel : Nat) (t : TypeId) (l : List LC), leafs P fuel t = some l → ∀ (n : Nat) (cs : List Value) (x : DataW H × List MemPlace),
    DataW.trod enc P w 0 (fun _ => true) held n t cs = some x → (∀ m, m ∈ x.1.weights P t → m ≤ reachBytes) → Good w Bw l cs
  | 0, t, l, h => by simp [leafs] at h
  | fuel + 1, t, l, h => by
    intro n cs x hx hm
    have IH := good_of fuel
    simp only [leafs] at h
    split at h
    · rename_i ht
      cases h
      obtain ⟨b, rfl, _⟩ := DataW.trod_bool ht hx
      exact .one (by simp [Rd]) rfl (.lit _)
    · rename_i k ht
      cases h
      obtain ⟨n, rfl, _, hw⟩ := DataW.trod_int ht hx
      exact .one (by simpa [Rd, Lit.wf] using hw) rfl (.lit _)
    · rename_i ht
      cases h
      obtain ⟨s, rfl, rfl, hs⟩ := DataW.trod_string ht hx
      refine .one (g := .lit (.string s)) ?_ rfl (.lit _)
      rw [Rd]
      exact ⟨s, rfl, hm s.data.toList.length (by rw [DataW.weights]; exact List.mem_cons_self ..)⟩
    · rename_i e ht
      obtain ⟨l1, h1, h⟩ := Option.bind_eq_some_iff.1 h
      split at h
      · rename_i hl
        cases h
        rcases Deep.open_slice ht hx with ⟨rfl, rfl⟩ | ⟨a, len, cap, m, n', D, Pl, rfl, _, hlc, hcm, hmm, rfl, hcell⟩
        · refine .one (g := .sl false l1.length [] []) ?_ rfl ?_
          · rw [Rd]
            exact ⟨[], [], rfl, by rw [List.length_nil, Nat.zero_mul]; exact Nat.zero_le _, Nat.zero_le _, fun x h => by simp at h⟩
          · refine .sl _ [] [] none 0 (fun _ _ => undef) (by simp) (fun _ => rfl) (fun _ h => by cases h) (fun x h => by simp at h) (fun i j x g h => by simp at h) (fun i j x g h => by simp at h) (fun i j x g h => by simp at h)
        · simp only [if_true] at hmm
          subst hmm
          rw [DataW.weights] at hm
          simp only [ht] at hm
          have key : ∀ i, ∃ (cs' : List Value) (gs : List GV), i < m → w.cells? 0 (a.add (i * P.cellsOf e)) (P.cellsOf e) = some cs' ∧ Good w Bw l1 cs' ∧ RdL l1 gs ∧
              ∀ (i : Nat) g, gs[i]? = some g → VP (Im0 w) w g (cs'.getD i undef) := fun i => by
            by_cases hi : i < m
            · obtain ⟨cs', hc, htr⟩ := hcell i hi
              have hg := IH e l1 h1 n' cs' _ htr fun j hj => hm j (List.mem_cons_of_mem _ ?_)
              · obtain ⟨gs, hr, hv⟩ := hg.ex
                exact ⟨cs', gs, fun _ => ⟨hc, hg, hr, hv⟩⟩
              · by_cases hil : i < len
                · exact List.mem_append_left _ (weightsAll_mem (List.mem_map.2 ⟨i, by simpa using hil, rfl⟩) hj)
                · exact List.mem_append_right _ (weightsAll_mem (List.mem_map.2 ⟨i - len, by simp; omega, by show D _ = D _; congr 1; omega⟩) hj)
            · exact ⟨[], [], fun h => absurd h hi⟩
          obtain ⟨C, key⟩ := Classical.axiomOfChoice key
          obtain ⟨G, hCG⟩ := Classical.axiomOfChoice key
          have hxs : (List.range len).map G ++ (List.range (m - len)).map (fun j => G (len + j)) = (List.range m).map G := by
            rw [show m = len + (m - len) by omega, List.range_add, List.map_append, List.map_map]
            simp only [Nat.add_sub_cancel_left]
            rfl
          have hin : ∀ (i : Nat) x, ((List.range m).map G)[i]? = some x → i < m ∧ x = G i := fun i x hx => by
            rw [List.getElem?_map, Option.map_eq_some_iff] at hx
            obtain ⟨j, hj, rfl⟩ := hx
            rw [List.getElem?_eq_some_iff] at hj
            obtain ⟨h1, h2⟩ := hj
            simp at h1 h2
            subst h2; exact ⟨h1, rfl⟩
          refine .one (g := .sl false l1.length ((List.range len).map G) ((List.range (m - len)).map fun j => G (len + j))) ?_ rfl ?_
          · rw [Rd]
            refine ⟨_, _, rfl, ?_, by simp; omega, fun x hx => ?_⟩
            · have := hm _ (List.mem_cons_self ..)
              simpa using this
            · rw [hxs] at hx
              obtain ⟨i, hi, rfl⟩ := List.mem_map.1 hx
              exact (hCG i (by simpa using hi)).2.2.1
          · have e1 : ((List.range len).map G).length = len := by simp
            rw [show (Value.slice (some a) len m) = .slice (some a) ((List.range len).map G).length m by rw [e1]]
            have cellOf : ∀ (i j : Nat) x g, ((List.range len).map G ++ (List.range (m - len)).map (fun j => G (len + j)))[i]? = some x → x[j]? = some g →
                w.cell? (a.add (i * l1.length + j)) = some ((C i).getD j undef) ∧ flat ((C i).getD j undef) = true ∧ VP (Im0 w) w g ((C i).getD j undef) := fun i j x g hx hg => by
              rw [hxs] at hx
              obtain ⟨hi, rfl⟩ := hin i x hx
              obtain ⟨hc, hgd, hr, hv⟩ := hCG i hi
              obtain ⟨_, hcl, hce⟩ := World.cells?_some hc
              have hjl : j < l1.length := by rw [← hr.length]; exact (List.getElem?_eq_some_iff.1 hg).1
              have hj2 := hce j (by omega)
              rw [Deep.add_add, List.getElem?_eq_getElem (by omega), ← hl.1] at hj2
              have hd : (C i).getD j undef = (C i)[j]'(by omega) := by rw [List.getD_eq_getElem?_getD, List.getElem?_eq_getElem (by omega)]; rfl
              refine ⟨by rw [hd]; exact hj2, by rw [hd]; exact hgd.flt _ (List.getElem_mem _), hv j g hg⟩
            refine .sl _ _ _ (some a) m (fun i j => (C i).getD j undef) (by simp; omega) (fun h => by cases h) (fun ad h => ?_) (fun x hx => ?_) (fun i j x g hx hg => ?_)
              (fun i j x g hx hg => (cellOf i j x g hx hg).2.1) (fun i j x g hx hg => (cellOf i j x g hx hg).2.2)
            · cases h
              rw [hxs]
              by_cases hm0 : m = 0
              · right; subst hm0; rfl
              · left
                obtain ⟨hc, hgd, hr, hv⟩ := hCG 0 (by omega)
                obtain ⟨_, hcl, hce⟩ := World.cells?_some hc
                have := hce 0 (by omega)
                rw [Deep.add_add, List.getElem?_eq_getElem (by omega)] at this
                simp only [Nat.zero_mul, Nat.add_zero] at this
                exact cell_spot (by simpa [Addr.add] using this)
            · rw [hxs] at hx
              obtain ⟨i, hi, rfl⟩ := List.mem_map.1 hx
              exact (hCG i (by simpa using hi)).2.2.1.length
            · have := add_place (cellOf i j x g hx hg).1
              exact ⟨a, rfl, cell_block (a := ⟨a.block, _, none⟩) this, this⟩
      · cases h
    · rename_i fs ht
      obtain ⟨l1, h1, h⟩ := Option.bind_eq_some_iff.1 h
      split at h
      · rename_i hl
        obtain rfl := Option.some.inj h
        obtain ⟨xs, n', rfl, rfl, hlen, hxl, hf⟩ := DataW.trod_struct ht hx
        rw [DataW.weights] at hm
        simp only [ht] at hm
        have := good_struct (cs := cs) fs.toList _ 0 xs h1 (fun t l h cs x hx hm => IH t l h n' cs x hx hm) (by omega) (by simpa using hxl) (fun i f h => hf i f (by simpa using h)) hm
        simpa using this
      · cases h
    · rename_i k e ht
      obtain ⟨l1, h1, h⟩ := Option.bind_eq_some_iff.1 h
      split at h
      · rename_i hl
        cases h
        obtain ⟨xs, n', rfl, rfl, hlen, hxl, hf⟩ := DataW.trod_array ht hx
        rw [DataW.weights] at hm
        simp only [ht] at hm
        have := good_array (cs := cs) hl.1 (fun cs x hx hm => IH e l1 h1 n' cs x hx hm) k 0 xs hxl (by omega) (by omega) hf hm
        simpa using this
      · cases h
    · cases h

end
end Go.Gh
