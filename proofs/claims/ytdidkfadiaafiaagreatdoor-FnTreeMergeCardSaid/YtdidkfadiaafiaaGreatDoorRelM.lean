/- A region that draws its order, its values good as far as it has come: how many of its writing operations are done. Appends in a region that draws its order: one's own slice, grown twice, then read. -/
import Derived.Test.YtdidkfadiaafiaaGreatDoorRel
import Derived.Test.YtdidkfadiaafiaaGreatDoorInfo
namespace Go.Proofs.YtdidkfadiaafiaaGreatDoor.M
open Go Go.RowKit Go.Proofs.YtdidkfadiaafiaaGreatDoor

/-- What an operation yields: a fixed value, or a value that is good in the world behind so many writes. -/
inductive Kd where
  | fix (c : Value)
  | rel (R : Nat → Value → World → Prop)
def Kd.good : Kd → Nat → Value → World → Prop
  | .fix c => fun _ v _ => v = c
  | .rel R => R
def Kd.sym : Kd → Value → Value
  | .fix c => fun _ => c
  | .rel _ => fun u => u
def StableG (G : Nat → World → World → Prop) (R : Nat → Value → World → Prop) : Prop :=
  (∀ m v w w', Below w.heap.size w w' → R m v w → R m v w') ∧ ∀ m v w w', G m w w' → R m v w → R (m + 1) v w'
def Kd.stable (G : Nat → World → World → Prop) : Kd → Prop
  | .fix _ => True
  | .rel R => StableG G R
theorem Kd.stable.good {G : Nat → World → World → Prop} {K : Kd} (h : K.stable G) : StableG G K.good := by
  cases K with
  | fix c => exact ⟨fun _ v w w' _ h => h, fun _ v w w' _ h => h⟩
  | rel R => exact h

section
structure Way where
  chain : List Nat
  /-- Operations that run only while so few writes are done: one of the writes waits for them. -/
  lim : List (Nat × Nat)
  I : Nat → World → Prop
  G : Nat → World → World → Prop
  keep : ∀ m w w', I m w → Below w.heap.size w w' → I m w'

variable {P : Program} {ops : Array Oper} {Y : Way}

abbrev Known := List (Nat × Tmp × (Nat → Value → World → Prop))
def Known.all (Γ : Known) (U : Nat → Value) (m : Nat) (w : World) : Prop := ∀ g ∈ Γ, g.2.2 m (U g.1) w
def Known.seen (ops : Array Oper) (o : Oper) (Γ : Known) (U : Nat → Value) (m : Nat) (w : World) : Prop := ∀ g ∈ Γ, (o.looksAt ops).contains g.2.1 = true → g.2.2 m (U g.1) w

/-- What is asked of one operation. -/
def obl (P : Program) (ops : Array Oper) (Y : Way) (o : Oper) (i : Nat) (H : Nat → World → Prop) (a : Act) (R : Nat → Value → World → Prop) : Prop :=
  (Y.chain.contains i = false ∧ ∀ m w, (∀ k, (i, k) ∈ Y.lim → m ≤ k) → Y.I m w → H m w → stepAt P ops o a (R m) w) ∨
  (∃ k, Y.chain[k]? = some i ∧ ∀ w, Y.I k w → H k w → Region.wanted o (yielded ops a.tmps) = true ∧ chainAt P o a (R (k + 1)) (Y.G k) (Y.I (k + 1)) w)

def wpRel (P : Program) (ops : Array Oper) (Y : Way) (L : Act → World → Prop) : List Oper → Nat → ((Nat → Value) → Act) → Known → Prop
  | [], _, A, Γ => ∀ U w, Y.I Y.chain.length w → Γ.all U Y.chain.length w → L (A U) w
  | o :: l, i, A, Γ => ∃ K : Kd, K.stable Y.G ∧ (∀ U, obl P ops Y o i (fun m => Γ.seen ops o U m) (A U) K.good) ∧
      wpRel P ops Y L l (i + 1) (fun U => (A U).put o.dst (K.sym (U i))) (match K, o.dst with | .rel R, some d => (i, d, R) :: Γ | _, _ => Γ)

theorem wpRel_fix {L : Act → World → Prop} {o : Oper} {l : List Oper} {i : Nat} {A : (Nat → Value) → Act} {Γ : Known} {c : Value} (hc : Y.chain.contains i = false) (hw : ∀ U, Region.wanted o (yielded ops (A U).tmps) = true)
    (h1 : ∀ m U w, (∀ k, (i, k) ∈ Y.lim → m ≤ k) → Y.I m w → Γ.seen ops o U m w → relAt P o (A U) (fun v _ => v = c) w) (h2 : wpRel P ops Y L l (i + 1) (fun U => (A U).put o.dst c) Γ) : wpRel P ops Y L (o :: l) i A Γ :=
  ⟨.fix c, trivial, fun U => .inl ⟨hc, fun m w hl hb hg => .inl ⟨hw U, h1 m U w hl hb hg⟩⟩, h2⟩
theorem wpRel_pass {L : Act → World → Prop} {o : Oper} {l : List Oper} {i : Nat} {A : (Nat → Value) → Act} {Γ : Known} (hc : Y.chain.contains i = false) (hw : ∀ U, Region.wanted o (yielded ops (A U).tmps) = false)
    (h2 : wpRel P ops Y L l (i + 1) (fun U => (A U).put o.dst undef) Γ) : wpRel P ops Y L (o :: l) i A Γ :=
  ⟨.fix undef, trivial, fun U => .inl ⟨hc, fun _ _ _ _ _ => .inr ⟨hw U, rfl⟩⟩, h2⟩
theorem wpRel_rel {L : Act → World → Prop} {o : Oper} {l : List Oper} {i : Nat} {A : (Nat → Value) → Act} {Γ : Known} {d : Tmp} (R : Nat → Value → World → Prop) (hd : o.dst = some d) (hs : StableG Y.G R) (hc : Y.chain.contains i = false) (hw : ∀ U, Region.wanted o (yielded ops (A U).tmps) = true)
    (h1 : ∀ m U w, (∀ k, (i, k) ∈ Y.lim → m ≤ k) → Y.I m w → Γ.seen ops o U m w → relAt P o (A U) (R m) w) (h2 : wpRel P ops Y L l (i + 1) (fun U => (A U).put (some d) (U i)) ((i, d, R) :: Γ)) : wpRel P ops Y L (o :: l) i A Γ := by
  refine ⟨.rel R, hs, fun U => .inl ⟨hc, fun m w hl hb hg => .inl ⟨hw U, h1 m U w hl hb hg⟩⟩, ?_⟩
  simp only [hd]
  exact h2
theorem wpRel_chain {L : Act → World → Prop} {o : Oper} {l : List Oper} {i : Nat} {A : (Nat → Value) → Act} {Γ : Known} {d : Tmp} (k : Nat) (R : Nat → Value → World → Prop) (hk : Y.chain[k]? = some i) (hd : o.dst = some d) (hs : StableG Y.G R) (hw : ∀ U, Region.wanted o (yielded ops (A U).tmps) = true)
    (h1 : ∀ U w, Y.I k w → Γ.seen ops o U k w → chainAt P o (A U) (R (k + 1)) (Y.G k) (Y.I (k + 1)) w) (h2 : wpRel P ops Y L l (i + 1) (fun U => (A U).put (some d) (U i)) ((i, d, R) :: Γ)) : wpRel P ops Y L (o :: l) i A Γ := by
  refine ⟨.rel R, hs, fun U => .inr ⟨k, hk, fun w hb hg => ⟨hw U, h1 U w hb hg⟩⟩, ?_⟩
  simp only [hd]
  exact h2

variable {l : List Oper}

def symV (K : Nat → Kd) (U : Nat → Value) (i : Nat) : Nat → Value := fun m => (K m).sym (U (i + m))
def goodV (ops : Array Oper) (K : Nat → Kd) (U : Nat → Value) (i : Nat) (l : List Oper) (o : Oper) (j : Nat) (q : Nat) (w : World) : Prop :=
  ∀ m o', m < j → l[m]? = some o' → ∀ d, o'.dst = some d → (o.looksAt ops).contains d = true → (K m).good q (symV K U i m) w

theorem obl_weaken {o : Oper} {i : Nat} {H H' : Nat → World → Prop} {a : Act} {R : Nat → Value → World → Prop} (h : obl P ops Y o i H a R) (hH : ∀ m w, H' m w → H m w) : obl P ops Y o i H' a R :=
  h.imp (fun ⟨h1, h2⟩ => ⟨h1, fun m w hl hb hg => h2 m w hl hb (hH m w hg)⟩) (fun ⟨k, h1, h2⟩ => ⟨k, h1, fun w hb hg => h2 w hb (hH k w hg)⟩)

theorem wpRel_acts {L : Act → World → Prop} : ∀ (l : List Oper) (i : Nat) (A : (Nat → Value) → Act) (Γ : Known), wpRel P ops Y L l i A Γ →
    ∃ K : Nat → Kd, (∀ j, (K j).stable Y.G) ∧
      (∀ j o, l[j]? = some o → ∀ U, obl P ops Y o (i + j) (fun q w => Γ.seen ops o U q w ∧ goodV ops K U i l o j q w) (actAt l (symV K U i) (A U) j) (K j).good) ∧
      (∀ U w, Y.I Y.chain.length w → Γ.all U Y.chain.length w → (∀ m o', l[m]? = some o' → ∀ d, o'.dst = some d → (K m).good Y.chain.length (symV K U i m) w) → L (actAt l (symV K U i) (A U) l.length) w)
  | [], i, A, Γ, h => ⟨fun _ => .fix undef, fun _ => trivial, fun j o hj => by simp at hj, fun U w hb hg _ => h U w hb hg⟩
  | o :: l, i, A, Γ, h => by
    obtain ⟨K0, hs, h1, h⟩ := h
    obtain ⟨K, k0, k1, k2⟩ := wpRel_acts l _ _ _ h
    let K' : Nat → Kd := fun n => match n with | 0 => K0 | n + 1 => K n
    have hact : ∀ U j, actAt (o :: l) (symV K' U i) (A U) (j + 1) = actAt l (symV K U (i + 1)) ((A U).put o.dst (K0.sym (U i))) j := by
      intro U j
      induction j with
      | zero => rfl
      | succ j ih =>
        rw [actAt, ih]
        simp only [List.getElem?_cons_succ]
        have : symV K' U i (j + 1) = symV K U (i + 1) j := by
          show (K j).sym (U (i + (j + 1))) = (K j).sym (U (i + 1 + j))
          rw [show i + (j + 1) = i + 1 + j by omega]
        rw [this]
        rfl
    have hsym : ∀ U m, symV K' U i (m + 1) = symV K U (i + 1) m := fun U m => by
      show (K m).sym (U (i + (m + 1))) = (K m).sym (U (i + 1 + m))
      rw [show i + (m + 1) = i + 1 + m by omega]
    have hΓ : ∀ (Q : Tmp → Prop) (U : Nat → Value) (q : Nat) (w : World), (∀ g ∈ Γ, Q g.2.1 → g.2.2 q (U g.1) w) → (∀ d, o.dst = some d → Q d → K0.good q (K0.sym (U i)) w) →
        ∀ g ∈ (match K0, o.dst with | .rel R, some d => (i, d, R) :: Γ | _, _ => Γ : Known), Q g.2.1 → g.2.2 q (U g.1) w := by
      intro Q U q w hg h0 g hm hq
      cases K0 with
      | fix c => exact hg g hm hq
      | rel R =>
        cases hd : o.dst with
        | none => simp only [hd] at hm; exact hg g hm hq
        | some d =>
          simp only [hd, List.mem_cons] at hm
          rcases hm with rfl | hm
          · exact h0 d hd hq
          · exact hg g hm hq
    refine ⟨K', fun j => ?_, fun j o' hj U => ?_, fun U w hb hg hgood => ?_⟩
    · cases j with
      | zero => exact hs
      | succ j => exact k0 j
    · cases j with
      | zero =>
        simp at hj; subst hj
        exact obl_weaken (h1 U) fun _ w h => h.1
      | succ j =>
        rw [hact, show i + (j + 1) = i + 1 + j by omega]
        have hj' : l[j]? = some o' := by simpa using hj
        refine obl_weaken (k1 j o' hj' U) fun q w ⟨hg, hgood⟩ => ⟨?_, fun m o2 hm ho2 d hd hl => ?_⟩
        · exact hΓ (fun s => (o'.looksAt ops).contains s = true) U q w hg (fun d hd hl => hgood 0 o (by omega) (by simp) d hd hl)
        · have := hgood (m + 1) o2 (by omega) (by simpa using ho2) d hd hl
          rw [hsym] at this
          exact this
    · simp only [List.length_cons]
      rw [hact]
      refine k2 U w hb ?_ (fun m o2 ho2 d hd => ?_)
      · intro g hm
        exact hΓ (fun _ => True) U Y.chain.length w (fun g hm _ => hg g hm) (fun d hd _ => hgood 0 o (by simp) d hd) g hm trivial
      · have := hgood (m + 1) o2 (by simpa using ho2) d hd
        rw [hsym] at this
        exact this

variable {K : Nat → Kd} {a : Act}

/-- Where the region stands. -/
structure RelSt (ops : Array Oper) (Y : Way) (n : Nat) (K : Nat → Kd) (a : Act) (q : Nat) (listed : Array Bool) (a' : Act) (w : World) : Prop where
  far : Y.I q w ∧ q ≤ Y.chain.length ∧ (∀ k i, Y.chain[k]? = some i → (k < q ↔ listed.getD i false = true))
  inv : HeadInv .any ops n listed
  defers : a'.defers = a.defers
  size : a'.tmps.size = a.tmps.size
  done : ∀ (j : Nat) (o : Oper) (s : Nat), j < n → ops[j]? = some o → listed.getD j false = true → o.dst = some s → ∃ v, a'.tmps[s]? = some v ∧ (K j).good q v w
  rest : ∀ (s : Nat), (∀ (j : Nat) (o : Oper), j < n → ops[j]? = some o → listed.getD j false = true → o.dst ≠ some s) → a'.tmps[s]? = a.tmps[s]?

def limB (ops : Array Oper) (chain : List Nat) (lim : List (Nat × Nat)) : Bool :=
  lim.all fun p => match chain[p.2]? with
    | some c => (match ops[c]? with | some o => o.after.any fun e => Region.binds .any e && e.on == p.1 | none => false)
    | none => false
theorem limB_of {chain : List Nat} {lim : List (Nat × Nat)} (h : limB ops chain lim = true) {i k : Nat} (hm : (i, k) ∈ lim) : ∃ c o, chain[k]? = some c ∧ ops[c]? = some o ∧ ∃ e ∈ o.after, Region.binds .any e = true ∧ e.on = i := by
  have := List.all_eq_true.1 h (i, k) hm
  simp only at this
  split at this
  · rename_i c hc
    split at this
    · rename_i o ho
      obtain ⟨e, he, hb⟩ := Array.any_eq_true'.1 this
      simp only [Bool.and_eq_true, beq_iff_eq] at hb
      exact ⟨c, o, hc, ho, e, he, hb.1, hb.2⟩
    · cases this
  · cases this

theorem rel_main {n : Nat} (hR : RegOK ops n) {l : List Oper} (hl : l.toArray = ops) (hch : chainB' ops n Y.chain = true) (hlim : limB ops Y.chain Y.lim = true) {Q : Exit → Act → World → Prop} (hsz : ∀ (i : Nat) (o : Oper) (d : Nat), (l.take n)[i]? = some o → o.dst = some d → d < a.tmps.size)
    (hK : ∀ j, (K j).stable Y.G)
    (hV : ∀ j o, (l.take n)[j]? = some o → ∀ U, obl P ops Y o j (fun q w => goodV ops K U 0 (l.take n) o j q w) (actAt (l.take n) (symV K U 0) a j) (K j).good)
    (hT : ∀ U w, Y.I Y.chain.length w → (∀ m o', (l.take n)[m]? = some o' → ∀ d, o'.dst = some d → (K m).good Y.chain.length (symV K U 0 m) w) → wpList P ops Q (l.drop n) (actAt (l.take n) (symV K U 0) a n) w) :
    ∀ (f : Nat) (q : Nat) (listed : Array Bool) (a' : Act) (w : World), RelSt ops Y n K a q listed a' w → f + trues listed n = ops.size →
      wpAny P .any ops Q f listed a' w := by
  simp only [chainB', Bool.and_eq_true, List.all_eq_true, decide_eq_true_eq] at hch
  obtain ⟨hcn, hcw⟩ := hch
  have hcn' : ∀ (k i : Nat), Y.chain[k]? = some i → i < n := fun k i h => hcn i (List.mem_of_getElem? h)
  have hcd : ∀ (k k' i j : Nat), Y.chain[k]? = some i → Y.chain[k']? = some j → k' < k → i ≠ j := by
    intro k k' i j hk hk' hlt
    have h1 := hcw k (List.mem_range.2 (List.getElem?_eq_some_iff.1 hk).1) k' (List.mem_range.2 hlt)
    simp only [hk, hk', Bool.and_eq_true, bne_iff_ne] at h1
    exact h1.1
  have hcp : ∀ (k i j : Nat) (o : Oper), Y.chain[k + 1]? = some i → Y.chain[k]? = some j → ops[i]? = some o → ∃ e ∈ o.after, Region.binds .any e = true ∧ e.on = j := by
    intro k i j o hk hk' ho
    have h1 := hcw (k + 1) (List.mem_range.2 (List.getElem?_eq_some_iff.1 hk).1) k (List.mem_range.2 (by omega))
    simp only [hk, hk', ho, Bool.and_eq_true, Bool.or_eq_true, decide_eq_true_eq] at h1
    rcases h1.2 with h | h
    · omega
    · obtain ⟨e, he, hb⟩ := Array.any_eq_true'.1 h
      simp only [Bool.and_eq_true, beq_iff_eq] at hb
      exact ⟨e, he, hb.1, hb.2⟩
  have hget : ∀ i : Nat, ops[i]? = l[i]? := fun i => by rw [← hl]; simp
  have hln : l.length = ops.size := by rw [← hl]; simp
  have htk : ∀ i : Nat, i < n → (l.take n)[i]? = ops[i]? := fun i hi => by rw [hget, List.getElem?_take, if_pos hi]
  -- the act of the walk and the act that is there agree at what is done
  have hsame : ∀ (q : Nat) (listed : Array Bool) (a' : Act) (w : World), RelSt ops Y n K a q listed a' w → ∀ (i s : Nat), i ≤ n → (∀ (j : Nat) (o : Oper), j < n → ops[j]? = some o → o.dst = some s → j < i ∧ listed.getD j false = true) →
      a'.tmps[s]? = (actAt (l.take n) (symV K (slotV ops a') 0) a i).tmps[s]? := by
    intro q listed a' w hA i s hin hs
    by_cases hex : ∃ (j : Nat) (oj : Oper), j < n ∧ ops[j]? = some oj ∧ oj.dst = some s
    · obtain ⟨j, oj, hjn, hj, hd⟩ := hex
      obtain ⟨hji, hlj⟩ := hs j oj hjn hj hd
      obtain ⟨v, hv, hg⟩ := hA.done j oj s hjn hj hlj hd
      have hsl : s < a.tmps.size := hsz j oj s (by rw [htk j hjn]; exact hj) hd
      rw [actAt_slot hji (by rw [htk j hjn]; exact hj) hd hsl (fun k o' h1 h2 h3 => by
        have hkn : k < n := by omega
        rw [htk k hkn] at h3
        exact hR.dsts j k oj o' hjn hkn (by omega) hj h3 s hd)]
      rw [hv]
      congr 1
      show v = (K j).sym (slotV ops a' (0 + j))
      cases hk : K j with
      | fix c => rw [hk] at hg; exact hg
      | rel R =>
        show v = slotV ops a' (0 + j)
        unfold slotV
        rw [Nat.zero_add, hj]
        simp [hd, hv]
    · have h1 := hA.rest s fun j o hjn hj _ hd => hex ⟨j, o, hjn, hj, hd⟩
      have h2 := actAt_keep (l := l.take n) (V := symV K (slotV ops a') 0) (a := a) 0 s i fun k o _ hk hko hd => hex ⟨k, o, by omega, by rw [← htk k (by omega)]; exact hko, hd⟩
      rw [Nat.zero_add] at h2
      rw [h1, h2]
      rfl
  have hgoodv : ∀ (q : Nat) (listed : Array Bool) (a' : Act) (w : World), RelSt ops Y n K a q listed a' w → ∀ (m : Nat) (o' : Oper) (d : Nat), m < n → ops[m]? = some o' → o'.dst = some d → listed.getD m false = true → (K m).good q (symV K (slotV ops a') 0 m) w := by
    intro q listed a' w hA m o' d hmn hm hd hlm
    obtain ⟨v, hv, hg⟩ := hA.done m o' d hmn hm hlm hd
    show (K m).good q ((K m).sym (slotV ops a' (0 + m))) w
    cases hk : K m with
    | fix c => rfl
    | rel R =>
      rw [hk] at hg
      show R q (slotV ops a' (0 + m)) w
      unfold slotV
      rw [Nat.zero_add, hm]
      have hg2 : R q v w := hg
      simpa [hd, hv] using hg2
  have hend : ∀ (q : Nat) (listed : Array Bool) (a' : Act) (w : World), RelSt ops Y n K a q listed a' w → (∀ i, i < n → listed.getD i false = true) → wpList P ops Q (l.drop n) a' w := by
    intro m0 listed a' w hA hall
    obtain ⟨hI0, hm0, hfar0⟩ := hA.far
    have hmm : m0 = Y.chain.length := by
      rcases Nat.lt_or_ge m0 Y.chain.length with h | h
      · have := (hfar0 m0 Y.chain[m0] (List.getElem?_eq_getElem h)).2 (hall _ (hcn' m0 _ (List.getElem?_eq_getElem h)))
        omega
      · omega
    subst hmm
    have hae : a' = actAt (l.take n) (symV K (slotV ops a') 0) a n := by
      have hd := hA.defers.trans (actAt_defers (l := l.take n) (V := symV K (slotV ops a') 0) (a := a) n).symm
      have ht : a'.tmps = (actAt (l.take n) (symV K (slotV ops a') 0) a n).tmps := by
        apply Array.ext_getElem?
        intro s
        exact hsame _ listed a' w hA n s (Nat.le_refl _) fun j o hj _ _ => ⟨hj, hall j hj⟩
      cases a'; cases hx : actAt (l.take n) _ a n; rw [hx] at hd ht; simp only at hd ht; subst hd ht; rfl
    have := hT (slotV ops a') w hI0 fun m o' hm d hd => by
      have hmn : m < n := by have := (List.getElem?_eq_some_iff.1 hm).1; simp at this; omega
      exact hgoodv _ listed a' w hA m o' d hmn (by rw [← htk m hmn]; exact hm) hd (hall m hmn)
    rw [← hae] at this
    exact this
  intro f
  induction f with
  | zero =>
    intro q listed a' w hA hf
    have hle := trues_le listed n
    have hn : n = ops.size := by have := hR.le; omega
    have hall := trues_all (listed := listed) (n := n) (by omega)
    have hseq := hR.seq
    rw [show ops.size - n = 0 by omega] at hseq
    have hld : listed = headDone ops.size n := by
      apply Array.ext_getElem?
      intro j
      unfold headDone
      by_cases hj : j < ops.size
      · have h1 := hall j (by omega)
        have hjs : j < listed.size := by rw [hA.inv.size]; exact hj
        simp [hjs] at h1
        simp [hjs, hj, h1]; omega
      · simp [hA.inv.size, hj]
    have hdr : l.drop n = [] := List.drop_eq_nil_of_le (by omega)
    have := hend _ listed a' w hA hall
    rw [hdr] at this
    refine ⟨?_, this⟩
    rw [hld]; simpa [Region.seqB] using hseq
  | succ f ih =>
    intro q listed a' w hA hf
    by_cases hall : trues listed n = n
    · have hall' := trues_all hall
      have hld : listed = headDone ops.size n := by
        apply Array.ext_getElem?
        intro j
        unfold headDone
        by_cases hj : j < ops.size
        · have hjs : j < listed.size := by rw [hA.inv.size]; exact hj
          by_cases hjn : j < n
          · have h1 := hall' j hjn
            simp [hjs] at h1
            simp [hjs, hj, h1, hjn]
          · have h1 := hA.inv.tail j (by omega) hj
            simp [hjs] at h1
            simp [hjs, hj, h1, hjn]
        · simp [hA.inv.size, hj]
      have hfl : f + 1 = (l.drop n).length := by rw [List.length_drop, hln]; omega
      have hfin := hend _ listed a' w hA hall'
      rw [hfl]
      refine wpAny_of_seq (l.drop n) n listed _ w (fun j => by rw [List.getElem?_drop, hget]) ?_ hfin
      rw [← hfl, hld]
      have := hR.seq
      rwa [show ops.size - n = f + 1 by omega] at this
    · obtain ⟨i0, hi0, hun0, hlow⟩ := trues_not hall
      have hi0s : i0 < ops.size := by have := hR.le; omega
      have hr0 : i0 ∈ Region.ready .any ops listed := by
        refine mem_ready.2 ⟨getD_in (by rw [hA.inv.size]; exact hi0s) hun0, ops[i0], Array.getElem?_eq_getElem hi0s, fun e he hbd => ?_⟩
        exact hlow _ (hR.back i0 _ (Array.getElem?_eq_getElem hi0s) e he hbd)
      refine ⟨fun h => (by rw [h] at hr0; cases hr0), fun i hi => ?_⟩
      obtain ⟨hiun, oi, hoi, hdep⟩ := mem_ready.1 hi
      have his : i < ops.size := (Array.getElem?_eq_some_iff.1 hoi).1
      have hin : i < n := by
        rcases hR.tail with h | ⟨hs, hc⟩
        · omega
        · rcases Nat.lt_or_ge i n with h | h
          · exact h
          · exact absurd hi (tail_waits hs hc (by omega) hA.inv _ i0 rfl hi0 (getD_in (by rw [hA.inv.size]; exact hi0s) hun0) i h)
      have hun : listed.getD i false = false := getD_both hiun
      have hlook : ∀ s ∈ oi.looksAt ops, ∀ (j : Nat) (o : Oper), j < n → ops[j]? = some o → o.dst = some s → j < i ∧ listed.getD j false = true := by
        intro s hs j oj hjn hj hd
        obtain ⟨hji, e, he, hb, hon⟩ := hR.looks i oi hin hoi s hs j oj hjn hj hd
        have hlj := hdep e he hb
        rw [hon] at hlj
        exact ⟨hji, hlj⟩
      have hslot : ∀ s ∈ oi.looksAt ops, a'.tmps[s]? = (actAt (l.take n) (symV K (slotV ops a') 0) a i).tmps[s]? := fun s hs =>
        hsame _ listed a' w hA i s (by omega) (hlook s hs)
      have hstep := hV i oi (by rw [htk i hin]; exact hoi) (slotV ops a')
      have hgd : goodV ops K (slotV ops a') 0 (l.take n) oi i q w := (fun m o' hm ho' d hd hc => by
        have hmn : m < n := by omega
        rw [htk m hmn] at ho'
        obtain ⟨_, hl2⟩ := hlook d (List.contains_iff_mem.1 hc) m o' hmn ho' hd
        exact hgoodv _ listed a' w hA m o' d hmn ho' hd hl2)
      have hexec : execOp a'.eval oi = execOp (actAt (l.take n) (symV K (slotV ops a') 0) a i).eval oi := by
        refine execOp_congr oi (fun cs b => Region.noSelect_spec hR.sel i oi cs b hoi) fun x hx => ?_
        cases x with
        | tmp t =>
          have ht := hslot t (List.mem_append_left _ (List.mem_filterMap.2 ⟨.tmp t, by simpa using hx, rfl⟩))
          simp [Act.eval, ht]
        | _ => rfl
      have hwant : Region.wanted oi (yielded ops a'.tmps) = Region.wanted oi (yielded ops (actAt (l.take n) (symV K (slotV ops a') 0) a i).tmps) := by
        unfold Region.wanted
        cases hg : oi.guard with
        | none => rfl
        | some gw =>
          obtain ⟨g, want⟩ := gw
          have hy : yielded ops a'.tmps g = yielded ops (actAt (l.take n) (symV K (slotV ops a') 0) a i).tmps g := by
            unfold yielded
            cases ht : (ops[g]?).bind (·.dst) with
            | none => rfl
            | some t =>
              have := hslot t (by simp [Oper.looksAt, hg, ht])
              simp [this]
          simp only [hy]
      have hnext : ∀ q' v w', (K i).good q' v w' → (∀ j u, (K j).good q u w → (K j).good q' u w') → (Y.I q' w' ∧ q' ≤ Y.chain.length ∧ (∀ k i', Y.chain[k]? = some i' → (k < q' ↔ (listed.setIfInBounds i true).getD i' false = true))) → wpAny P .any ops Q f (listed.setIfInBounds i true) (a'.put oi.dst v) w' := by
        intro q' v w' hgv hb' hfar'
        refine ih _ _ _ w' ⟨hfar', hA.inv.set hi hin, by rw [put_defers, hA.defers], by rw [put_size, hA.size], ?_, ?_⟩ ?_
        · intro j o s hj ho hlj hd
          by_cases hij : i = j
          · subst hij
            have : o = oi := Option.some.inj (ho.symm.trans hoi)
            subst this
            have hsl : s < a.tmps.size := hsz i o s (by rw [htk i hin]; exact hoi) hd
            refine ⟨v, ?_, hgv⟩
            rw [hd]
            simp [Act.put, hA.size, hsl]
          · rw [getD_set_ne false hij] at hlj
            obtain ⟨u, hu, hgu⟩ := hA.done j o s hj ho hlj hd
            refine ⟨u, ?_, hb' j u hgu⟩
            rw [put_other _ _ _ _ (fun he => hR.dsts i j oi o hin hj hij hoi ho s he hd)]
            exact hu
        · intro s hs
          rw [put_other _ _ _ _ (hs i oi hin hoi (by simp [hA.inv.size, his]))]
          refine hA.rest s fun j o hj ho hlj => hs j o hj ho ?_
          by_cases hij : i = j
          · subst hij; simp [hA.inv.size, his]
          · rw [getD_set_ne false hij]; exact hlj
        · rw [trues_set hin (by rw [hA.inv.size]; exact his) hun]; omega
      obtain ⟨hIm, hml, hfar⟩ := hA.far
      unfold wpOp
      simp only [hoi]
      rcases hstep with ⟨hnc, hstep⟩ | ⟨k, hk, hstep⟩
      · have hfar' : ∀ w', Below w.heap.size w w' → Y.I q w' ∧ q ≤ Y.chain.length ∧ (∀ k i', Y.chain[k]? = some i' → (k < q ↔ (listed.setIfInBounds i true).getD i' false = true)) := by
          intro w' hb'
          refine ⟨Y.keep q w w' hIm hb', hml, fun k i' hk => ?_⟩
          have hne : i ≠ i' := by
            rintro rfl
            have : Y.chain.contains i = true := List.contains_iff_mem.2 (List.mem_of_getElem? hk)
            rw [hnc] at this; cases this
          rw [getD_set_ne false hne]
          exact hfar k i' hk
        have hlq : ∀ k, (i, k) ∈ Y.lim → q ≤ k := by
          intro k hk
          rcases Nat.lt_or_ge k q with h | h
          · exfalso
            obtain ⟨c, o, hc, ho, e, he, hb, hon⟩ := limB_of hlim hk
            have h1 := hA.inv.closed c o ho ((hfar k c hc).1 h) e he hb
            rw [hon, hun] at h1
            cases h1
          · exact h
        rcases hstep q w hlq hIm hgd with ⟨hw, hv⟩ | ⟨hw, hv⟩
        · rw [hwant, hw, if_pos rfl]
          exact .inl (Oper.wp_mono (fun a'' w'' ⟨v, h1, h2, h3⟩ => by rw [h1]; exact hnext q v w'' h2 (fun j u hu => (hK j).good.1 q u w w'' h3 hu) (hfar' w'' h3)) (relAt_wp hexec hv))
        · rw [hwant, hw, if_neg (by simp)]
          exact hnext q _ w hv (fun j u hu => hu) (hfar' w (Below.refl _ _))
      · have hkm : k = q := by
          have h1 : ¬ k < q := fun h => by have := (hfar k i hk).1 h; rw [hun] at this; cases this
          rcases Nat.lt_or_ge q k with h | h
          · exfalso
            obtain ⟨k', rfl⟩ : ∃ k', k = k' + 1 := ⟨k - 1, by omega⟩
            have hkl := (List.getElem?_eq_some_iff.1 hk).1
            have hk2 : Y.chain[k']? = some Y.chain[k'] := List.getElem?_eq_getElem (by omega)
            obtain ⟨e, he, hb, hon⟩ := hcp k' i _ oi hk hk2 hoi
            have := hdep e he hb
            rw [hon] at this
            have := (hfar k' _ hk2).2 this
            omega
          · omega
        subst hkm
        obtain ⟨hw, hv⟩ := hstep w hIm hgd
        rw [hwant, hw, if_pos rfl]
        refine .inl (Oper.wp_mono (fun a'' w'' ⟨v, h1, h2, h3, h4⟩ => by
          rw [h1]
          refine hnext (k + 1) v w'' h2 (fun j u hu => (hK j).good.2 k u w w'' h3 hu) ⟨h4, (List.getElem?_eq_some_iff.1 hk).1, fun k' i' hk' => ?_⟩
          by_cases hii : i = i'
          · subst hii
            have : k' = k := by
              rcases Nat.lt_trichotomy k' k with h | h | h
              · exact absurd rfl (hcd k k' i i hk hk' h)
              · exact h
              · exact absurd rfl (hcd k' k i i hk' hk h)
            subst this
            simp [hA.inv.size, his]
          · rw [getD_set_ne false hii, ← hfar k' i' hk']
            have : k' ≠ k := by rintro rfl; exact hii (Option.some.inj (hk.symm.trans hk'))
            omega) (chainAt_wp hexec hv))

/-- The region whose first n operations yield good values, in whatever order; the others come behind them, in the text's order. -/
theorem wp_region_way {id : Nat} {Q : Exit → Act → World → Prop} {a : Act} {w : World} {l : List Oper} (n : Nat) (hm : P.follows .mixedOrders = true) (hB : regB l.toArray n = true)
    (hsz : (l.take n).all (fun o => match o.dst with | some d => decide (d < a.tmps.size) | none => true) = true) (Y : Way) (hch : chainB' l.toArray n Y.chain = true) (hlim : limB l.toArray Y.chain Y.lim = true) (h0 : Y.I 0 { w with drawn := w.drawn + 1 })
    (h : wpRel P l.toArray Y (fun a' w' => wpList P l.toArray Q (l.drop n) a' w') (l.take n) 0 (fun _ => a) []) : (Code.region id l.toArray true).wp P Q a w := by
  have hR := RegOK.of hB
  obtain ⟨K, k0, k1, k2⟩ := wpRel_acts _ _ _ _ h
  have hle : n ≤ l.length := by have := hR.le; simpa using this
  have htl : (l.take n).length = n := by simp; omega
  rw [htl] at k2
  refine wp_region_any hm (rel_main (K := K) (a := a) (Y := Y) hR rfl hch hlim (fun i o d hi hd => ?_) k0 (fun j o hj U => by
    have h := k1 j o hj U
    rw [Nat.zero_add] at h
    exact obl_weaken h fun _ w' hg => ⟨fun g hg' => (by cases hg'), hg⟩)
    (fun U w' hb hg => k2 U w' hb (fun g hg' => by cases hg') hg) _ 0 _ a _ ⟨⟨h0, Nat.zero_le _, fun k i _ => ⟨fun h => absurd h (by omega), fun hl => (by rw [getD_replicate_false] at hl; cases hl)⟩⟩, ⟨by simp, fun j oj _ hl => (by rw [getD_replicate_false] at hl; cases hl), fun t _ ht => getD_in (by simpa using ht) (getD_replicate_false _ _)⟩, rfl, rfl, ?_, ?_⟩ ?_)
  · have := List.all_eq_true.1 hsz o (List.mem_of_getElem? hi)
    simpa [hd] using this
  · intro j o s _ _ hl; rw [getD_replicate_false] at hl; cases hl
  · intro s _; rfl
  · have : trues (Array.replicate l.toArray.size false) n = 0 := by
      unfold trues
      rw [List.filter_eq_nil_iff.2]
      · rfl
      · intro i _; rw [getD_replicate_false]; simp
    rw [this]; rfl

end
end Go.Proofs.YtdidkfadiaafiaaGreatDoor.M

namespace Go.Proofs.YtdidkfadiaafiaaGreatDoor
open Go Go.RowKit

theorem exec_append_all {α : Type} [Dat α] {P : Program} {w : World} {o : Oper} {a : Act} (s x : Operand) (t : TypeId)
    (ho : o.op = .call { callee := .builtin .append, args := #[s, x], argTypes := #[t, t] })
    (base : Nat) (e : TypeId) (E : Elem P α t e) (l : Loc α) (hs : a.eval s = l.val) (hown : Own base e w l)
    (y : Loc α) (hx : a.eval x = y.val) (hy : y.At w) (hoff : ∀ z ∈ y.xs, ∀ b ∈ Dat.fp z, some b ≠ l.val.ownBlock)
    (hlen : l.xs.length + y.xs.length ≤ 1099511627776) (hbase : base ≤ w.heap.size) :
    ∃ l' w', (execOp a.eval o).run P w = .ok (.value l'.val) w' ∧ Appended base e w l y.xs l' w' := by
  have key : ∃ l' w', (Builtin.append_ #[t, t] o.type #[l.val, y.val]).run P w = .ok l'.val w' ∧ Appended base e w l y.xs l' w' := by
    obtain ⟨ya, yc, ys⟩ := y
    cases ya with
    | some ad => exact run_append_loc (P := P) w base t o.type e E l hown ad ys.length yc ys rfl (flat_cells hy rfl) (fun z hz => hy.elem hz) hoff hlen hbase
    | none =>
      have hn : ys = [] := by
        cases ys with
        | nil => rfl
        | cons z zs => obtain ⟨a, ha⟩ := hy.addr (by simp); cases ha
      subst hn
      obtain ⟨i, z, hi, hz, hsz, hby, hzs⟩ := E.inf
      refine ⟨l, w, ?_, ⟨by simp, hown, ⟨rfl, rfl, rfl, Nat.le_refl _, fun _ _ _ => rfl⟩, fun b hb => .inl hb⟩⟩
      rcases hown.cases with rfl | ⟨g, cap, xs, cur, rfl, _, _, hnc, _⟩
      · simp [Builtin.append_, Loc.val, run_underlying E.und, sizeOf, typeInfo, hi, Builtin.lenOf, Builtin.firstCells]
      · simp [Builtin.append_, Loc.val, run_underlying E.und, sizeOf, typeInfo, hi, Builtin.lenOf, Builtin.firstCells, hnc, storeCells]
  obtain ⟨l', w', hr, hap⟩ := key
  refine ⟨l', w', ?_, hap⟩
  unfold execOp
  simp only [ho, resolve, invoke, builtin, Sem.run_bind, Sem.run_pure, Result.andThen_ok, List.map_toArray, List.map_cons, List.map_nil, hs, hx, hr]

section
variable {α : Type} [Dat α]
/-- Two appends, i and j, behind the world w0. -/
def wayApp (w0 : World) (i j : Nat) : M.Way :=
  ⟨[i, j], [], fun _ w => Below w0.heap.size w0 w, fun m w w' => m < 2 ∧ Below w0.heap.size w w', fun _ _ _ h k => h.trans (k.mono h.size)⟩
def App0 (N : Nat) (e : TypeId) (α : Type) [Dat α] (m : Nat) (v : Value) (w : World) : Prop := m = 0 → ∃ g, v = .slice (some ⟨g, 0, none⟩) 0 0 ∧ Own (α := α) N e w ⟨some ⟨g, 0, none⟩, 0, []⟩
def App1 (N : Nat) (e : TypeId) (xs : List α) (m : Nat) (v : Value) (w : World) : Prop := m ≠ 0 ∧ (m = 1 → ∃ y : Loc α, v = y.val ∧ y.xs = xs ∧ Own N e w y)
def App2 (xs : List α) (m : Nat) (v : Value) (w : World) : Prop := 2 ≤ m ∧ ∃ y : Loc α, v = y.val ∧ y.xs = xs ∧ y.At w
theorem App0.stable {w0 : World} {i j N : Nat} {e : TypeId} : M.StableG (wayApp w0 i j).G (App0 N e α) :=
  ⟨fun m v w w' hb h hm => by obtain ⟨g, h1, h2⟩ := h hm; exact ⟨g, h1, h2.belowAll hb⟩, fun m v w w' _ _ hm => absurd hm (by omega)⟩
theorem App1.stable {w0 : World} {i j N : Nat} {e : TypeId} {xs : List α} : M.StableG (wayApp w0 i j).G (App1 N e xs) :=
  ⟨fun m v w w' hb h => ⟨h.1, fun hm => by obtain ⟨y, h1, h2, h3⟩ := h.2 hm; exact ⟨y, h1, h2, h3.belowAll hb⟩⟩, fun m v w w' _ h => ⟨by omega, fun hm => absurd (by omega) h.1⟩⟩
theorem App2.stable {w0 : World} {i j : Nat} {xs : List α} : M.StableG (wayApp w0 i j).G (App2 xs) :=
  ⟨fun m v w w' hb ⟨h, y, h1, h2, h3⟩ => ⟨h, y, h1, h2, h3.belowAll hb⟩, fun m v w w' hg h => absurd h.1 (by have := hg.1; omega)⟩

theorem chain_app1 {P : Program} {w0 w : World} {i j : Nat} {o : Oper} {a : Act} (s x : Operand) (t : TypeId) (ho : o.op = .call { callee := .builtin .append, args := #[s, x], argTypes := #[t, t] })
    (e : TypeId) (E : Elem P α t e) (v : Value) (hs : a.eval s = v) (h0 : App0 w0.heap.size e α 0 v w) (y : Loc α) (hx : a.eval x = y.val) (hy : y.At w0) (hlen : y.xs.length ≤ 1000000) (hI : Below w0.heap.size w0 w) :
    chainAt P o a (App1 w0.heap.size e y.xs 1) ((wayApp w0 i j).G 0) ((wayApp w0 i j).I 1) w := by
  obtain ⟨g, rfl, hown⟩ := h0 rfl
  obtain ⟨l', w', hr, hap⟩ := exec_append_all (P := P) s x t ho w0.heap.size e E ⟨some ⟨g, 0, none⟩, 0, []⟩ hs hown y hx (hy.belowAll hI) (fun z hz b hb h => by
    have h1 := Loc.lt_of_At hy b (List.mem_append_right _ (List.mem_flatMap.2 ⟨z, hz, hb⟩))
    have h2 := (hown.lt b h.symm).1
    omega) (by simp; omega) hI.size
  unfold chainAt
  rw [hr]
  exact ⟨⟨by omega, fun _ => ⟨l', rfl, by rw [hap.xs]; rfl, hap.own⟩⟩, ⟨by omega, hap.below hown (Below.refl _ _) (Nat.le_refl _) hI.size⟩, hap.below hown hI (Nat.le_refl _) hI.size⟩
theorem chain_app2 {P : Program} {w0 w : World} {i j : Nat} {o : Oper} {a : Act} (s x : Operand) (t : TypeId) (ho : o.op = .call { callee := .builtin .append, args := #[s, x], argTypes := #[t, t] })
    (e : TypeId) (E : Elem P α t e) (v : Value) (hs : a.eval s = v) {xs : List α} (h0 : App1 w0.heap.size e xs 1 v w) (y : Loc α) (hx : a.eval x = y.val) (hy : y.At w0) (hlx : xs.length ≤ 1000000) (hlen : y.xs.length ≤ 1000000) (hI : Below w0.heap.size w0 w) :
    chainAt P o a (App2 (xs ++ y.xs) 2) ((wayApp w0 i j).G 1) ((wayApp w0 i j).I 2) w := by
  obtain ⟨l, rfl, rfl, hown⟩ := h0.2 rfl
  obtain ⟨l', w', hr, hap⟩ := exec_append_all (P := P) s x t ho w0.heap.size e E l hs hown y hx (hy.belowAll hI) (fun z hz b hb h => by
    have h1 := Loc.lt_of_At hy b (List.mem_append_right _ (List.mem_flatMap.2 ⟨z, hz, hb⟩))
    have h2 := (hown.lt b h.symm).1
    omega) (by omega) hI.size
  unfold chainAt
  rw [hr]
  exact ⟨⟨by omega, l', rfl, hap.xs, hap.own.at_⟩, ⟨by omega, hap.below hown (Below.refl _ _) (Nat.le_refl _) hI.size⟩, hap.below hown hI (Nat.le_refl _) hI.size⟩
end

end Go.Proofs.YtdidkfadiaafiaaGreatDoor
