/- A region that draws its order, its head's operations of one value each under an invariant of the world: one walk in the text's order. -/
import Derived.StillTail
import Derived.Tactics
import Derived.KernelRfl
namespace Go.Proofs.YtdidkfadiaafiaaGreatDoor
open Go

section
variable {P : Program} {ops : Array Oper} {I : World → Prop}

/-- In this world the operation yields v, and the invariant holds behind it. -/
def invAt (P : Program) (I : World → Prop) (o : Oper) (a : Act) (v : Value) (w : World) : Prop :=
  match (execOp a.eval o).run P w with
  | .ok (.value v') w' => v' = v ∧ I w'
  | .ok .skip w' => v = undef ∧ I w'
  | .ok (.enter f args) w' => Calls P f args w' fun e w'' => e = .returned v ∧ I w''
  | _ => False

def InvStep (P : Program) (ops : Array Oper) (I : World → Prop) (o : Oper) (a : Act) (v : Value) : Prop :=
  (Region.wanted o (yielded ops a.tmps) = true ∧ ∀ w, I w → invAt P I o a v w) ∨ (Region.wanted o (yielded ops a.tmps) = false ∧ v = undef)

def wpInv (P : Program) (ops : Array Oper) (I : World → Prop) (L : Act → Prop) : List Oper → Act → Prop
  | [], a => L a
  | o :: l, a => ∃ v, InvStep P ops I o a v ∧ wpInv P ops I L l (a.put o.dst v)

theorem wpInv_step {L : Act → Prop} {o : Oper} {l : List Oper} {a : Act} {v : Value} (hw : Region.wanted o (yielded ops a.tmps) = true)
    (h1 : ∀ w, I w → invAt P I o a v w) (h2 : wpInv P ops I L l (a.put o.dst v)) : wpInv P ops I L (o :: l) a := ⟨v, .inl ⟨hw, h1⟩, h2⟩
theorem wpInv_pass {L : Act → Prop} {o : Oper} {l : List Oper} {a : Act} (hw : Region.wanted o (yielded ops a.tmps) = false)
    (h2 : wpInv P ops I L l (a.put o.dst undef)) : wpInv P ops I L (o :: l) a := ⟨undef, .inr ⟨hw, rfl⟩, h2⟩

/-- The acts of the walk in the text's order. -/
def actAt (l : List Oper) (V : Nat → Value) (a : Act) : Nat → Act
  | 0 => a
  | i + 1 => match l[i]? with | some o => (actAt l V a i).put o.dst (V i) | none => actAt l V a i

theorem wpInv_acts {L : Act → Prop} : ∀ (l : List Oper) (a : Act), wpInv P ops I L l a →
    ∃ V : Nat → Value, (∀ i o, l[i]? = some o → InvStep P ops I o (actAt l V a i) (V i)) ∧ L (actAt l V a l.length)
  | [], a, h => ⟨fun _ => undef, fun i o hi => by simp at hi, h⟩
  | o :: l, a, h => by
    obtain ⟨v, hs, h⟩ := h
    obtain ⟨V, h1, h2⟩ := wpInv_acts l _ h
    have hact : ∀ i, actAt (o :: l) (fun n => match n with | 0 => v | n + 1 => V n) a (i + 1) = actAt l V (a.put o.dst v) i := by
      intro i
      induction i with
      | zero => rfl
      | succ i ih =>
        rw [actAt, ih]
        simp only [List.getElem?_cons_succ]
        rfl
    refine ⟨fun n => match n with | 0 => v | n + 1 => V n, fun i o' hi => ?_, ?_⟩
    · cases i with
      | zero => simp at hi; subst hi; exact hs
      | succ i =>
        rw [hact]
        exact h1 i o' (by simpa using hi)
    · simp only [List.length_cons]
      rw [hact]
      exact h2

theorem put_size (a : Act) (d : Option Tmp) (v : Value) : (a.put d v).tmps.size = a.tmps.size := by cases d <;> simp [Act.put]
theorem put_defers (a : Act) (d : Option Tmp) (v : Value) : (a.put d v).defers = a.defers := by cases d <;> rfl
theorem put_other (a : Act) (d : Option Tmp) (v : Value) (s : Nat) (h : d ≠ some s) : (a.put d v).tmps[s]? = a.tmps[s]? := by
  cases d with
  | none => rfl
  | some d => simp [Act.put, Array.getElem?_setIfInBounds_ne (show d ≠ s from fun e => h (by rw [e]))]
theorem put_same (a b : Act) (d : Tmp) (v : Value) (h : a.tmps.size = b.tmps.size) : (a.put (some d) v).tmps[d]? = (b.put (some d) v).tmps[d]? := by
  simp [Act.put, Array.getElem?_setIfInBounds, h]


variable {l : List Oper} {V : Nat → Value} {a : Act}

theorem actAt_size : ∀ i, (actAt l V a i).tmps.size = a.tmps.size
  | 0 => rfl
  | i + 1 => by
    unfold actAt
    split
    · rw [put_size, actAt_size]
    · exact actAt_size i
theorem actAt_defers : ∀ i, (actAt l V a i).defers = a.defers
  | 0 => rfl
  | i + 1 => by
    unfold actAt
    split
    · rw [put_defers, actAt_defers]
    · exact actAt_defers i
theorem actAt_keep (i : Nat) (s : Nat) : ∀ m, (∀ k o, i ≤ k → k < i + m → l[k]? = some o → o.dst ≠ some s) → (actAt l V a (i + m)).tmps[s]? = (actAt l V a i).tmps[s]?
  | 0, _ => rfl
  | m + 1, h => by
    rw [← Nat.add_assoc, actAt]
    split
    · rename_i o ho
      rw [put_other _ _ _ _ (h (i + m) o (by omega) (by omega) ho)]
      exact actAt_keep i s m fun k o' h1 h2 h3 => h k o' h1 (by omega) h3
    · exact actAt_keep i s m fun k o' h1 h2 h3 => h k o' h1 (by omega) h3

/-- The list of what is done when the head is done. -/
def headDone (m n : Nat) : Array Bool := ((List.range m).map fun i => decide (i < n)).toArray

/-- What a region must fulfil: by the kernel. -/
def regB (ops : Array Oper) (n : Nat) : Bool :=
  Region.noSelect ops && decide (n ≤ ops.size) &&
  ((List.range ops.size).all fun i => match ops[i]? with | some o => o.after.all fun e => !Region.binds .any e || decide (e.on < i) | none => true) &&
  ((List.range n).all fun i => match ops[i]? with
    | some o => (o.looksAt ops).all fun s => (List.range n).all fun j => match ops[j]? with
        | some oj => oj.dst != some s || (decide (j < i) && o.after.any fun e => Region.binds .any e && e.on == j)
        | none => true
    | none => true) &&
  ((List.range n).all fun i => (List.range n).all fun j => i == j || match ops[i]?, ops[j]? with
    | some oi, some oj => oi.dst == none || oi.dst != oj.dst
    | _, _ => true) &&
  (decide (n = ops.size) || (Region.sinkB .any ops n && Region.chainB .any ops n)) &&
  Region.seqB .any ops (ops.size - n) n (headDone ops.size n)

structure RegOK (ops : Array Oper) (n : Nat) : Prop where
  sel : Region.noSelect ops = true
  le : n ≤ ops.size
  back : ∀ (i : Nat) (o : Oper), ops[i]? = some o → ∀ e ∈ o.after, Region.binds .any e = true → e.on < i
  looks : ∀ (i : Nat) (o : Oper), i < n → ops[i]? = some o → ∀ s ∈ o.looksAt ops, ∀ (j : Nat) (oj : Oper), j < n → ops[j]? = some oj → oj.dst = some s → j < i ∧ ∃ e ∈ o.after, Region.binds .any e = true ∧ e.on = j
  dsts : ∀ (i j : Nat) (oi oj : Oper), i < n → j < n → i ≠ j → ops[i]? = some oi → ops[j]? = some oj → ∀ d, oi.dst = some d → oj.dst ≠ some d
  tail : n = ops.size ∨ (Region.sinkB .any ops n = true ∧ Region.chainB .any ops n = true)
  seq : Region.seqB .any ops (ops.size - n) n (headDone ops.size n) = true

theorem RegOK.of {n : Nat} (h : regB ops n = true) : RegOK ops n := by
  simp only [regB, Bool.and_eq_true, decide_eq_true_eq, Bool.or_eq_true] at h
  obtain ⟨⟨⟨⟨⟨⟨h1, h2⟩, h3⟩, h4⟩, h5⟩, h6⟩, h7⟩ := h
  refine ⟨h1, h2, fun i o hi e he hbd => ?_, fun i o hin hi s hs j oj hjn hj hd => ?_, fun i j oi oj hin hjn hne hi hj d hd hd' => ?_, h6, h7⟩
  · have hlt := (Array.getElem?_eq_some_iff.1 hi).1
    have := List.all_eq_true.1 h3 i (List.mem_range.2 hlt)
    simp only [hi, Array.all_eq_true_iff_forall_mem, decide_eq_true_eq, Bool.or_eq_true, Bool.not_eq_true'] at this
    rcases this e he with h | h
    · rw [hbd] at h; cases h
    · exact h
  · have := List.all_eq_true.1 h4 i (List.mem_range.2 hin)
    simp only [hi] at this
    have := List.all_eq_true.1 (List.all_eq_true.1 this s hs) j (List.mem_range.2 hjn)
    simp only [hj, hd, bne_self_eq_false, Bool.false_or, Bool.and_eq_true, decide_eq_true_eq] at this
    obtain ⟨e, he, hb⟩ := Array.any_eq_true'.1 this.2
    simp only [Bool.and_eq_true, beq_iff_eq] at hb
    exact ⟨this.1, e, he, hb.1, hb.2⟩
  · have := List.all_eq_true.1 (List.all_eq_true.1 h5 i (List.mem_range.2 hin)) j (List.mem_range.2 hjn)
    simp [hi, hj, hd, hd', hne] at this

/-- Where the region stands: what of the head is done has its final value. -/
structure RegAt (ops : Array Oper) (n : Nat) (a e : Act) (listed : Array Bool) (a' : Act) : Prop where
  inv : HeadInv .any ops n listed
  defers : a'.defers = a.defers
  size : a'.tmps.size = a.tmps.size
  done : ∀ (j : Nat) (o : Oper) (s : Nat), j < n → ops[j]? = some o → listed.getD j false = true → o.dst = some s → a'.tmps[s]? = e.tmps[s]?
  rest : ∀ (s : Nat), (∀ (j : Nat) (o : Oper), j < n → ops[j]? = some o → listed.getD j false = true → o.dst ≠ some s) → a'.tmps[s]? = a.tmps[s]?

def trues (listed : Array Bool) (n : Nat) : Nat := ((List.range n).filter fun i => listed.getD i false).length

theorem trues_set {listed : Array Bool} {n i : Nat} (hi : i < n) (hs : i < listed.size) (hun : listed.getD i false = false) : trues (listed.setIfInBounds i true) n = trues listed n + 1 := by
  unfold trues
  have key : ∀ m, m ≤ n → ((List.range m).filter fun j => (listed.setIfInBounds i true).getD j false).length = ((List.range m).filter fun j => listed.getD j false).length + if i < m then 1 else 0 := by
    intro m
    induction m with
    | zero => intro _; simp
    | succ m ih =>
      intro hm
      rw [List.range_succ, List.filter_append, List.filter_append, List.length_append, List.length_append, ih (by omega)]
      by_cases him : i = m
      · subst him
        have h1 : (listed.setIfInBounds i true).getD i false = true := by simp [hs]
        simp only [List.filter_cons, h1, hun, List.filter_nil]
        simp
      · have h1 : (listed.setIfInBounds i true).getD m false = listed.getD m false := getD_set_ne false him
        simp only [List.filter_cons, h1, List.filter_nil]
        by_cases hlt : i < m
        · have : i < m + 1 := by omega
          simp only [hlt, this, if_true]; omega
        · have : ¬ i < m + 1 := by omega
          simp only [hlt, this, if_false]; omega
  rw [key n (Nat.le_refl _), if_pos hi]

theorem trues_le (listed : Array Bool) (n : Nat) : trues listed n ≤ n := by
  unfold trues
  have := List.length_filter_le (fun i => listed.getD i false) (List.range n)
  simpa using this

theorem trues_all {listed : Array Bool} : ∀ {n : Nat}, trues listed n = n → ∀ i, i < n → listed.getD i false = true := by
  intro n h i hi
  unfold trues at h
  have h2 := (List.length_filter_eq_length_iff (l := List.range n) (p := fun i => listed.getD i false)).1 (by simpa using h)
  exact h2 i (List.mem_range.2 hi)

theorem trues_not {listed : Array Bool} {n : Nat} (h : trues listed n ≠ n) : ∃ i, i < n ∧ listed.getD i false = false ∧ ∀ j, j < i → listed.getD j false = true := by
  have hex : ∃ i, i < n ∧ listed.getD i false = false := by
    apply Classical.byContradiction
    intro hno
    apply h
    unfold trues
    rw [List.filter_eq_self.2]
    · simp
    · intro i hi
      cases hl : listed.getD i false with
      | true => rfl
      | false => exact absurd ⟨i, List.mem_range.1 hi, hl⟩ hno
  obtain ⟨i, hi, hl⟩ := hex
  induction i using Nat.strongRecOn with
  | _ i ih =>
    by_cases hall : ∀ j, j < i → listed.getD j false = true
    · exact ⟨i, hi, hl, hall⟩
    · obtain ⟨j, hj⟩ := Classical.not_forall.1 hall
      obtain ⟨hji, hjl⟩ := Classical.not_imp.1 hj
      exact ih j hji (by omega) (by simpa using hjl)

theorem invAt_wp {o : Oper} {a a' : Act} {v : Value} {w : World} {Q : Exit → Act → World → Prop} (he : execOp a'.eval o = execOp a.eval o) (h : invAt P I o a v w) :
    o.wp P a' w (fun a'' w'' => a'' = a'.put o.dst v ∧ I w'') Q := by
  unfold invAt at h
  unfold Oper.wp
  rw [he]
  generalize (execOp a.eval o).run P w = r at h
  cases r with
  | halt x w' => exact h.elim
  | ok x w' =>
    cases x with
    | value v' => obtain ⟨rfl, hI⟩ := h; exact ⟨rfl, hI⟩
    | skip => obtain ⟨rfl, hI⟩ := h; exact ⟨rfl, hI⟩
    | enter f args => exact Calls.mono h fun e w'' ⟨he, hI⟩ => by subst he; exact ⟨rfl, hI⟩
    | _ => exact h.elim

theorem reg_main {n : Nat} (hR : RegOK ops n) {l : List Oper} (hl : l.toArray = ops) {Q : Exit → Act → World → Prop}
    (hV : ∀ i o, (l.take n)[i]? = some o → InvStep P ops I o (actAt (l.take n) V a i) (V i))
    (hT : ∀ w, I w → wpList P ops Q (l.drop n) (actAt (l.take n) V a n) w) :
    ∀ (f : Nat) (listed : Array Bool) (a' : Act) (w : World), I w → RegAt ops n a (actAt (l.take n) V a n) listed a' → f + trues listed n = ops.size →
      wpAny P .any ops Q f listed a' w := by
  have hget : ∀ i : Nat, ops[i]? = l[i]? := fun i => by rw [← hl]; simp
  have hsz : l.length = ops.size := by rw [← hl]; simp
  have htk : ∀ i : Nat, i < n → (l.take n)[i]? = ops[i]? := fun i hi => by rw [hget, List.getElem?_take, if_pos hi]
  intro f
  induction f with
  | zero =>
    intro listed a' w hI hA hf
    have hle := trues_le listed n
    have hn : n = ops.size := by have := hR.le; omega
    have hall := trues_all (listed := listed) (n := n) (by omega)
    have hae : a' = actAt (l.take n) V a n := by
      have hd := hA.defers.trans (actAt_defers (l := l.take n) (V := V) (a := a) n).symm
      have ht : a'.tmps = (actAt (l.take n) V a n).tmps := by
        apply Array.ext_getElem?
        intro s
        by_cases hs : ∃ j o, j < n ∧ ops[j]? = some o ∧ o.dst = some s
        · obtain ⟨j, o, hj, ho, hd⟩ := hs
          exact hA.done j o s hj ho (hall j hj) hd
        · rw [hA.rest s fun j o hj ho _ hd => hs ⟨j, o, hj, ho, hd⟩]
          have hk0 := actAt_keep (l := l.take n) (V := V) (a := a) 0 s n fun k o _ hk hko hd => hs ⟨k, o, by omega, by rw [← htk k (by omega)]; exact hko, hd⟩
          rw [Nat.zero_add] at hk0
          exact hk0.symm
      cases a'; cases hx : actAt (l.take n) V a n; rw [hx] at hd ht; simp only at hd ht; subst hd ht; rfl
    have hseq := hR.seq
    rw [show ops.size - n = 0 by omega] at hseq
    have hld : listed = headDone ops.size n := by
      apply Array.ext_getElem?
      intro j
      unfold headDone
      by_cases hj : j < ops.size
      · have h1 := hall j (by omega)
        have hjs : j < listed.size := by rw [hA.inv.size]; exact hj
        simp [hjs] at h1
        simp [hjs, hj, h1]; omega
      · simp [hA.inv.size, hj]
    have hdr : l.drop n = [] := List.drop_eq_nil_of_le (by omega)
    have := hT w hI
    rw [hdr] at this
    refine ⟨?_, ?_⟩
    · rw [hld]; simpa [Region.seqB] using hseq
    · rw [hae]; exact this
  | succ f ih =>
    intro listed a' w hI hA hf
    by_cases hall : trues listed n = n
    · have hall' := trues_all hall
      have hae : a' = actAt (l.take n) V a n := by
        have hd := hA.defers.trans (actAt_defers (l := l.take n) (V := V) (a := a) n).symm
        have ht : a'.tmps = (actAt (l.take n) V a n).tmps := by
          apply Array.ext_getElem?
          intro s
          by_cases hs : ∃ j o, j < n ∧ ops[j]? = some o ∧ o.dst = some s
          · obtain ⟨j, o, hj, ho, hd⟩ := hs
            exact hA.done j o s hj ho (hall' j hj) hd
          · rw [hA.rest s fun j o hj ho _ hd => hs ⟨j, o, hj, ho, hd⟩]
            have hk0 := actAt_keep (l := l.take n) (V := V) (a := a) 0 s n fun k o _ hk hko hd => hs ⟨k, o, by omega, by rw [← htk k (by omega)]; exact hko, hd⟩
            rw [Nat.zero_add] at hk0
            exact hk0.symm
        cases a'; cases hx : actAt (l.take n) V a n; rw [hx] at hd ht; simp only at hd ht; subst hd ht; rfl
      have hld : listed = headDone ops.size n := by
        apply Array.ext_getElem?
        intro j
        unfold headDone
        by_cases hj : j < ops.size
        · have hjs : j < listed.size := by rw [hA.inv.size]; exact hj
          by_cases hjn : j < n
          · have h1 := hall' j hjn
            simp [hjs] at h1
            simp [hjs, hj, h1, hjn]
          · have h1 := hA.inv.tail j (by omega) hj
            simp [hjs] at h1
            simp [hjs, hj, h1, hjn]
        · simp [hA.inv.size, hj]
      have hfl : f + 1 = (l.drop n).length := by rw [List.length_drop, hsz]; omega
      rw [hfl, hae]
      refine wpAny_of_seq (l.drop n) n listed _ w (fun j => by rw [List.getElem?_drop, hget]) ?_ (hT w hI)
      rw [← hfl, hld]
      have := hR.seq
      rwa [show ops.size - n = f + 1 by omega] at this
    · obtain ⟨i0, hi0, hun0, hlow⟩ := trues_not hall
      have hi0s : i0 < ops.size := by have := hR.le; omega
      have hr0 : i0 ∈ Region.ready .any ops listed := by
        refine mem_ready.2 ⟨getD_in (by rw [hA.inv.size]; exact hi0s) hun0, ops[i0], Array.getElem?_eq_getElem hi0s, fun e he hbd => ?_⟩
        exact hlow _ (hR.back i0 _ (Array.getElem?_eq_getElem hi0s) e he hbd)
      refine ⟨fun h => (by rw [h] at hr0; cases hr0), fun i hi => ?_⟩
      obtain ⟨hiun, oi, hoi, hdep⟩ := mem_ready.1 hi
      have his : i < ops.size := (Array.getElem?_eq_some_iff.1 hoi).1
      have hin : i < n := by
        rcases hR.tail with h | ⟨hs, hc⟩
        · omega
        · rcases Nat.lt_or_ge i n with h | h
          · exact h
          · exact absurd hi (tail_waits hs hc (by omega) hA.inv _ i0 rfl hi0 (getD_in (by rw [hA.inv.size]; exact hi0s) hun0) i h)
      have hun : listed.getD i false = false := getD_both hiun
      have hstep := hV i oi (by rw [htk i hin]; exact hoi)
      -- the operands have their values
      have hslot : ∀ s ∈ oi.looksAt ops, a'.tmps[s]? = (actAt (l.take n) V a i).tmps[s]? := by
        intro s hs
        by_cases hex : ∃ (j : Nat) (oj : Oper), j < n ∧ ops[j]? = some oj ∧ oj.dst = some s
        · obtain ⟨j, oj, hjn, hj, hd⟩ := hex
          obtain ⟨hji, e, he, hb, hon⟩ := hR.looks i oi hin hoi s hs j oj hjn hj hd
          have hlj := hdep e he hb
          rw [hon] at hlj
          rw [hA.done j oj s (by omega) hj hlj hd]
          have := actAt_keep (l := l.take n) (V := V) (a := a) i s (n - i) fun k o hk1 hk2 hko hd' => by
            have hkn : k < n := by omega
            rw [htk k hkn] at hko
            exact hR.dsts j k oj o (by omega) hkn (by omega) hj hko s hd hd'
          rwa [show i + (n - i) = n by omega] at this
        · have h1 := hA.rest s fun j o hjn hj _ hd => hex ⟨j, o, hjn, hj, hd⟩
          have h2 := actAt_keep (l := l.take n) (V := V) (a := a) 0 s i fun k o _ hk hko hd => hex ⟨k, o, by omega, by rw [← htk k (by omega)]; exact hko, hd⟩
          rw [Nat.zero_add] at h2
          rw [h1, h2]
          rfl
      have hexec : execOp a'.eval oi = execOp (actAt (l.take n) V a i).eval oi := by
        refine execOp_congr oi (fun cs b => Region.noSelect_spec hR.sel i oi cs b hoi) fun x hx => ?_
        cases x with
        | tmp t =>
          have ht := hslot t (List.mem_append_left _ (List.mem_filterMap.2 ⟨.tmp t, by simpa using hx, rfl⟩))
          simp [Act.eval, ht]
        | _ => rfl
      have hwant : Region.wanted oi (yielded ops a'.tmps) = Region.wanted oi (yielded ops (actAt (l.take n) V a i).tmps) := by
        unfold Region.wanted
        cases hg : oi.guard with
        | none => rfl
        | some gw =>
          obtain ⟨g, want⟩ := gw
          have hy : yielded ops a'.tmps g = yielded ops (actAt (l.take n) V a i).tmps g := by
            unfold yielded
            cases ht : (ops[g]?).bind (·.dst) with
            | none => rfl
            | some t =>
              have := hslot t (by simp [Oper.looksAt, hg, ht])
              simp [this]
          simp only [hy]
      have hnext : ∀ w', I w' → wpAny P .any ops Q f (listed.setIfInBounds i true) (a'.put oi.dst (V i)) w' := by
        intro w' hI'
        refine ih _ _ w' hI' ⟨hA.inv.set hi hin, by rw [put_defers, hA.defers], by rw [put_size, hA.size], ?_, ?_⟩ ?_
        · intro j o s hj ho hl hd
          by_cases hij : i = j
          · subst hij
            have : o = oi := Option.some.inj (ho.symm.trans hoi)
            subst this
            rw [hd, put_same a' (actAt (l.take n) V a i) s (V i) (by rw [hA.size, actAt_size])]
            have hk := actAt_keep (l := l.take n) (V := V) (a := a) (i + 1) s (n - (i + 1)) fun k o' hk1 hk2 hko hd' => by
              have hkn : k < n := by omega
              rw [htk k hkn] at hko
              exact hR.dsts i k o o' hin hkn (by omega) hoi hko s hd hd'
            rw [show i + 1 + (n - (i + 1)) = n by omega] at hk
            rw [hk, actAt, htk i hin, hoi]
            simp only [hd]
          · rw [getD_set_ne false hij] at hl
            rw [put_other _ _ _ _ (fun he => hR.dsts i j oi o hin hj hij hoi ho s he hd)]
            exact hA.done j o s hj ho hl hd
        · intro s hs
          rw [put_other _ _ _ _ (hs i oi hin hoi (getD_set_true' hA.inv.size his))]
          refine hA.rest s fun j o hj ho hl => hs j o hj ho ?_
          by_cases hij : i = j
          · subst hij; exact getD_set_true' hA.inv.size his
          · rw [getD_set_ne false hij]; exact hl
        · rw [trues_set hin (by rw [hA.inv.size]; exact his) hun]; omega
      unfold wpOp
      simp only [hoi]
      rcases hstep with ⟨hw, hv⟩ | ⟨hw, hv⟩
      · rw [hwant, hw, if_pos rfl]
        exact .inl (Oper.wp_mono (fun a'' w'' ⟨h1, h2⟩ => by rw [h1]; exact hnext w'' h2) (invAt_wp hexec (hv w hI)))
      · rw [hwant, hw, if_neg (by simp)]
        have := hnext w hI
        rwa [hv] at this
where
  getD_set_true' {listed : Array Bool} {i m : Nat} (hs : listed.size = m) (hi : i < m) : (listed.setIfInBounds i true).getD i false = true := by
    simp [show i < listed.size by omega]

/-- The region whose first n operations hold to an invariant, in whatever order; the others come behind them, in the text's order. -/
theorem wp_region_inv {id : Nat} {Q : Exit → Act → World → Prop} {a : Act} {w : World} {l : List Oper} (n : Nat) (hm : P.follows .mixedOrders = true) (hB : regB l.toArray n = true)
    (I : World → Prop) (hI : I { w with drawn := w.drawn + 1 })
    (h : wpInv P l.toArray I (fun a' => ∀ w', I w' → wpList P l.toArray Q (l.drop n) a' w') (l.take n) a) : (Code.region id l.toArray true).wp P Q a w := by
  have hR := RegOK.of hB
  obtain ⟨V, h1, h2⟩ := wpInv_acts _ _ h
  have hle : n ≤ l.length := by have := hR.le; simpa using this
  have htl : (l.take n).length = n := by simp; omega
  rw [htl] at h2
  refine wp_region_any hm (reg_main (V := V) (a := a) hR rfl h1 h2 _ _ a _ hI ⟨⟨by simp, fun j oj _ hl => (by rw [getD_replicate_false] at hl; cases hl), fun t _ ht => getD_in (by simpa using ht) (getD_replicate_false _ _)⟩, rfl, rfl, ?_, ?_⟩ ?_)
  · intro j o s _ _ hl; rw [getD_replicate_false] at hl; cases hl
  · intro s _; rfl
  · have : trues (Array.replicate l.toArray.size false) n = 0 := by
      unfold trues
      rw [List.filter_eq_nil_iff.2]
      · rfl
      · intro i _; rw [getD_replicate_false]; simp
    rw [this]; rfl
end
end Go.Proofs.YtdidkfadiaafiaaGreatDoor
