/- Located data: values with the places of their slices; how they lie in memory; what keeps them. -/
import Derived.WalkKit
import Derived.Lib.Hide
import Derived.Deep.Draws
namespace Go.Proofs.YtdidkfadiaafiaaGreatDoor
open Go Go.RowKit

theorem add_block (a : Addr) (n : Nat) : (a.add n).block = a.block := by unfold Addr.add; split <;> rfl
theorem add_add (a : Addr) (i j : Nat) : (a.add i).add j = a.add (i + j) := by
  unfold Addr.add
  by_cases hi : i = 0 <;> by_cases hj : j = 0 <;> simp [hi, hj, Nat.add_assoc]

/-- A kind of data: how many cells, what they hold, what must lie behind them, in which blocks. -/
class Dat (α : Type) where
  k : Nat
  kpos : 0 < k
  enc : α → List Value
  len : ∀ x, (enc x).length = k
  one : ∀ x, ∀ v ∈ enc x, v.oneCell' = true
  At : World → α → Prop
  fp : α → List Nat
  lt : ∀ {w x}, At w x → ∀ b ∈ fp x, b < w.heap.size
  keep : ∀ {w w' x}, At w x → (∀ b ∈ fp x, w'.heap[b]? = w.heap[b]?) → At w' x

/-- A slice: its place, its capacity, what it holds. -/
structure Loc (α : Type) where
  a : Option Addr
  cap : Nat
  xs : List α

namespace Loc
variable {α : Type}
def val (l : Loc α) : Value := .slice l.a l.xs.length l.cap
def blk (l : Loc α) : List Nat := if l.xs = [] then [] else match l.a with | some a => [a.block] | none => []
variable [Dat α]
def fp (l : Loc α) : List Nat := l.blk ++ l.xs.flatMap Dat.fp
/-- The slice lies so in the world. -/
def At (w : World) (l : Loc α) : Prop :=
  l.xs.length ≤ l.cap ∧ l.cap ≤ maxLen ∧ (l.xs ≠ [] → ∃ a, l.a = some a) ∧
  (∀ a, l.a = some a → ∀ i x, l.xs[i]? = some x → ∀ j v, (Dat.enc x)[j]? = some v → w.cell? (a.add (i * Dat.k α + j)) = some v) ∧
  (∀ x ∈ l.xs, Dat.At w x)
end Loc

section
variable {α : Type} [Dat α] {w w' : World} {l : Loc α}

theorem Loc.At.lenCap (h : l.At w) : l.xs.length ≤ l.cap := h.1
theorem Loc.At.capMax (h : l.At w) : l.cap ≤ maxLen := h.2.1
theorem Loc.At.lenMax (h : l.At w) : l.xs.length ≤ 9223372036854775807 := by
  have h1 := h.1; have h2 := h.2.1; simp only [maxLen] at h2; omega
theorem Loc.At.cell (h : l.At w) {a : Addr} (ha : l.a = some a) {i : Nat} {x : α} (hx : l.xs[i]? = some x) {j : Nat} {v : Value} (hv : (Dat.enc x)[j]? = some v) :
    w.cell? (a.add (i * Dat.k α + j)) = some v := h.2.2.2.1 a ha i x hx j v hv
theorem Loc.At.elem (h : l.At w) {x : α} (hx : x ∈ l.xs) : Dat.At w x := h.2.2.2.2 x hx
theorem Loc.At.addr (h : l.At w) (hn : l.xs ≠ []) : ∃ a, l.a = some a := h.2.2.1 hn

omit [Dat α] in
theorem Loc.mem_blk {b : Nat} (hb : b ∈ l.blk) : ∃ a x r, l.a = some a ∧ l.xs = x :: r ∧ b = a.block := by
  unfold Loc.blk at hb
  split at hb
  · cases hb
  · rename_i hne
    split at hb
    · rename_i a ha
      obtain ⟨x, r, hr⟩ := List.exists_cons_of_ne_nil hne
      exact ⟨a, x, r, ha, hr, by simpa using hb⟩
    · cases hb

theorem Loc.lt_of_At (h : l.At w) : ∀ b ∈ l.fp, b < w.heap.size := by
  intro b hb
  unfold Loc.fp at hb
  rcases List.mem_append.1 hb with hb | hb
  · obtain ⟨a, x, r, ha, hr, rfl⟩ := Loc.mem_blk hb
    have hlen := Dat.len x
    have hk := Dat.kpos (α := α)
    obtain ⟨v, vs, hv⟩ := List.exists_cons_of_ne_nil (l := Dat.enc x) (by intro h0; rw [h0] at hlen; simp at hlen; omega)
    have hc := h.cell ha (i := 0) (x := x) (by simp [hr]) (j := 0) (v := v) (by simp [hv])
    have := World.block_lt_of_cell? w _ hc
    rwa [add_block] at this
  · obtain ⟨x, hx, hb⟩ := List.mem_flatMap.1 hb
    exact Dat.lt (h.elem hx) b hb

theorem Loc.keep_At (h : l.At w) (hk : ∀ b ∈ l.fp, w'.heap[b]? = w.heap[b]?) : l.At w' := by
  refine ⟨h.1, h.2.1, h.2.2.1, fun a ha i x hx j v hv => ?_, fun x hx => Dat.keep (h.elem hx) fun b hb => hk b ?_⟩
  · have hne : l.xs ≠ [] := by rintro h0; simp [h0] at hx
    have : a.block ∈ l.fp := by
      unfold Loc.fp Loc.blk
      simp [hne, ha]
    refine (World.cell?_of_block ?_).trans (h.cell ha hx hv)
    rw [add_block]
    exact hk _ this
  · unfold Loc.fp
    exact List.mem_append.2 (.inr (List.mem_flatMap.2 ⟨x, hx, hb⟩))

theorem Loc.At.below {B : Nat} (h : l.At w) (hb : Below B w w') (hB : ∀ b ∈ l.fp, b < B) : l.At w' := Loc.keep_At h fun b hm => hb.block b (hB b hm)
theorem Loc.At.belowAll (h : l.At w) (hb : Below w.heap.size w w') : l.At w' := h.below hb (Loc.lt_of_At h)
theorem Dat.below {B : Nat} {x : α} (h : Dat.At w x) (hb : Below B w w') (hB : ∀ b ∈ Dat.fp x, b < B) : Dat.At w' x := Dat.keep h fun b hm => hb.block b (hB b hm)
theorem Dat.belowAll {x : α} (h : Dat.At w x) (hb : Below w.heap.size w w') : Dat.At w' x := Dat.below h hb (Dat.lt h)
end

@[go_sem] theorem run_store_loc {α : Type} {P : Program} (w : World) (l : Loc α) (a : Addr) (m : Mode) : (store a l.val m).run P w = stored P w a l.val m := run_store P w a _ m rfl
@[go_sem, simp] theorem oneCell_val {α : Type} (l : Loc α) : l.val.oneCell' = true := rfl

/-! The kinds of data of the program. -/
instance : Dat Int where
  k := 1
  kpos := by omega
  enc x := [.int .i64 x]
  len _ := rfl
  one x v hv := by simp at hv; subst hv; rfl
  At _ _ := True
  fp _ := []
  lt _ _ hb := by cases hb
  keep _ _ := trivial

instance : Dat UInt8 where
  k := 1
  kpos := by omega
  enc x := [.int .u8 x.toNat]
  len _ := rfl
  one x v hv := by simp at hv; subst hv; rfl
  At _ _ := True
  fp _ := []
  lt _ _ hb := by cases hb
  keep _ _ := trivial

instance : Dat ByteArray where
  k := 1
  kpos := by omega
  enc x := [.string x]
  len _ := rfl
  one x v hv := by simp at hv; subst hv; rfl
  At _ x := x.size ≤ maxLen
  fp _ := []
  lt _ _ hb := by cases hb
  keep h _ := h

structure LSib where
  vv : Loc Int
  gone : Bool
  text : ByteArray

def LSib.cells (s : LSib) : List Value := [s.vv.val, .bool s.gone, .string s.text]
def LSib.val (s : LSib) : Value := .agg #[s.vv.val, .bool s.gone, .string s.text]

instance : Dat LSib where
  k := 3
  kpos := by omega
  enc := LSib.cells
  len _ := rfl
  one x v hv := by simp [LSib.cells] at hv; rcases hv with rfl | rfl | rfl <;> rfl
  At w s := s.vv.At w ∧ s.text.size ≤ maxLen
  fp s := s.vv.fp
  lt h := Loc.lt_of_At h.1
  keep h hk := ⟨Loc.keep_At h.1 hk, h.2⟩

structure LFile where
  name : ByteArray
  sibs : Loc LSib

def LFile.cells (f : LFile) : List Value := [.string f.name, f.sibs.val]
def LFile.val (f : LFile) : Value := .agg #[.string f.name, f.sibs.val]

instance : Dat LFile where
  k := 2
  kpos := by omega
  enc := LFile.cells
  len _ := rfl
  one x v hv := by simp [LFile.cells] at hv; rcases hv with rfl | rfl <;> rfl
  At w s := s.sibs.At w ∧ s.name.size ≤ maxLen
  fp s := s.sibs.fp
  lt h := Loc.lt_of_At h.1
  keep h hk := ⟨Loc.keep_At h.1 hk, h.2⟩

structure LRec where
  kind : Int
  name : ByteArray
  sibs : Loc LSib
  n : Int
  sum : Int

def LRec.cells (r : LRec) : List Value := [.int .i64 r.kind, .string r.name, r.sibs.val, .int .i64 r.n, .int .i64 r.sum]
def LRec.val (r : LRec) : Value := .agg #[.int .i64 r.kind, .string r.name, r.sibs.val, .int .i64 r.n, .int .i64 r.sum]

instance : Dat LRec where
  k := 5
  kpos := by omega
  enc := LRec.cells
  len _ := rfl
  one x v hv := by simp [LRec.cells] at hv; rcases hv with rfl | rfl | rfl | rfl | rfl <;> rfl
  At w s := s.sibs.At w ∧ s.name.size ≤ maxLen
  fp s := s.sibs.fp
  lt h := Loc.lt_of_At h.1
  keep h hk := ⟨Loc.keep_At h.1 hk, h.2⟩

structure LLog where
  from_ : Int
  recs : Loc LRec

def LLog.val (l : LLog) : Value := .agg #[.int .i64 l.from_, l.recs.val]


/-! The same data without places. -/
structure Sib where
  vv : List Int
  gone : Bool
  text : ByteArray
  deriving DecidableEq
structure File where
  name : ByteArray
  sibs : List Sib
  deriving DecidableEq
structure Rec where
  kind : Int
  name : ByteArray
  sibs : List Sib
  n : Int
  sum : Int
  deriving DecidableEq
structure Log where
  from_ : Int
  recs : List Rec
  deriving DecidableEq
def LSib.er (s : LSib) : Sib := ⟨s.vv.xs, s.gone, s.text⟩
def LFile.er (f : LFile) : File := ⟨f.name, f.sibs.xs.map LSib.er⟩
def LRec.er (r : LRec) : Rec := ⟨r.kind, r.name, r.sibs.xs.map LSib.er, r.n, r.sum⟩
def LLog.er (l : LLog) : Log := ⟨l.from_, l.recs.xs.map LRec.er⟩

theorem toList_inj {a b : ByteArray} : a.toList = b.toList ↔ a = b := by
  rw [ByteArray.toList_eq, ByteArray.toList_eq]
  constructor
  · intro h
    cases a; cases b
    simp only at h
    congr
    exact Array.toList_inj.1 h
  · rintro rfl; rfl

theorem belowN {B : Nat} {a w : World} (h : Below B a w) (n : Nat) : Below B a (w.drewN n) := ⟨h.os, h.tape, h.output, h.size, h.block⟩

theorem ret_bool {a b : Bool} (h : a = b) : Ending.returned (.bool a) = .returned (.bool b) := by rw [h]
theorem ret_int {a b : Int} (h : a = b) : Ending.returned (.int .i64 a) = .returned (.int .i64 b) := by rw [h]

theorem Loc.At.place {α : Type} [Dat α] {w : World} {l : Loc α} (h : l.At w) {k : Nat} (hk : k < l.xs.length) : ∃ b o, l.a = some ⟨b, o, none⟩ := by
  obtain ⟨⟨b, o, s⟩, ha⟩ := h.addr (by rintro h0; simp [h0] at hk)
  have hlen := Dat.len l.xs[k]
  have hkp := Dat.kpos (α := α)
  obtain ⟨v, vs, hv⟩ := List.exists_cons_of_ne_nil (l := Dat.enc l.xs[k]) (by intro h0; rw [h0] at hlen; simp at hlen; omega)
  have h0 : 0 < l.xs.length := by omega
  have hlen0 := Dat.len l.xs[0]
  obtain ⟨v0, vs0, hv0⟩ := List.exists_cons_of_ne_nil (l := Dat.enc l.xs[0]) (by intro h0; rw [h0] at hlen0; simp at hlen0; omega)
  have hc := h.cell ha (i := 0) (x := l.xs[0]) (List.getElem?_eq_getElem h0) (j := 0) (v := v0) (by simp [hv0])
  simp only [Nat.zero_mul, Nat.add_zero, Addr.add, if_true] at hc
  cases s with
  | none => exact ⟨b, o, ha⟩
  | some s =>
    simp only [World.cell?] at hc
    split at hc
    · simp at hc
    · cases hc

theorem add_lit' (b o n : Nat) : (⟨b, o, none⟩ : Addr).add n = ⟨b, o + n, none⟩ := by
  unfold Addr.add; split <;> simp_all

theorem Loc.At.cellK {α : Type} [Dat α] {w : World} {l : Loc α} (h : l.At w) {b o : Nat} (ha : l.a = some ⟨b, o, none⟩) {i : Nat} (hi : i < l.xs.length) {j : Nat} {v : Value} (hv : (Dat.enc l.xs[i])[j]? = some v) :
    w.cell? ⟨b, o + i * Dat.k α + j, none⟩ = some v := by
  have := h.cell ha (i := i) (x := l.xs[i]) (List.getElem?_eq_getElem hi) hv
  rwa [add_lit', ← Nat.add_assoc] at this

theorem Loc.At.int {w : World} {l : Loc Int} (h : l.At w) {b o : Nat} (ha : l.a = some ⟨b, o, none⟩) {i : Nat} (hi : i < l.xs.length) : w.cell? ⟨b, o + i, none⟩ = some (.int .i64 (l.xs[i])) := by
  have := h.cellK ha hi (j := 0) (v := .int .i64 l.xs[i]) rfl
  simpa [Dat.k] using this
theorem Loc.At.byte {w : World} {l : Loc UInt8} (h : l.At w) {b o : Nat} (ha : l.a = some ⟨b, o, none⟩) {i : Nat} (hi : i < l.xs.length) : w.cell? ⟨b, o + i, none⟩ = some (.int .u8 (l.xs[i]).toNat) := by
  have := h.cellK ha hi (j := 0) (v := .int .u8 (l.xs[i]).toNat) rfl
  simpa [Dat.k] using this
theorem Loc.At.sib {w : World} {l : Loc LSib} (h : l.At w) {b o : Nat} (ha : l.a = some ⟨b, o, none⟩) {i : Nat} (hi : i < l.xs.length) :
    w.cell? ⟨b, o + i * 3, none⟩ = some (l.xs[i]).vv.val ∧ w.cell? ⟨b, o + i * 3 + 1, none⟩ = some (.bool (l.xs[i]).gone) ∧ w.cell? ⟨b, o + i * 3 + 2, none⟩ = some (.string (l.xs[i]).text) :=
  ⟨h.cellK ha hi (j := 0) rfl, h.cellK ha hi (j := 1) rfl, h.cellK ha hi (j := 2) rfl⟩
theorem Loc.At.file {w : World} {l : Loc LFile} (h : l.At w) {b o : Nat} (ha : l.a = some ⟨b, o, none⟩) {i : Nat} (hi : i < l.xs.length) :
    w.cell? ⟨b, o + i * 2, none⟩ = some (.string (l.xs[i]).name) ∧ w.cell? ⟨b, o + i * 2 + 1, none⟩ = some (l.xs[i]).sibs.val :=
  ⟨h.cellK ha hi (j := 0) rfl, h.cellK ha hi (j := 1) rfl⟩
theorem Loc.At.rec_ {w : World} {l : Loc LRec} (h : l.At w) {b o : Nat} (ha : l.a = some ⟨b, o, none⟩) {i : Nat} (hi : i < l.xs.length) :
    w.cell? ⟨b, o + i * 5, none⟩ = some (.int .i64 (l.xs[i]).kind) ∧ w.cell? ⟨b, o + i * 5 + 1, none⟩ = some (.string (l.xs[i]).name) ∧ w.cell? ⟨b, o + i * 5 + 2, none⟩ = some (l.xs[i]).sibs.val ∧
    w.cell? ⟨b, o + i * 5 + 3, none⟩ = some (.int .i64 (l.xs[i]).n) ∧ w.cell? ⟨b, o + i * 5 + 4, none⟩ = some (.int .i64 (l.xs[i]).sum) :=
  ⟨h.cellK ha hi (j := 0) rfl, h.cellK ha hi (j := 1) rfl, h.cellK ha hi (j := 2) rfl, h.cellK ha hi (j := 3) rfl, h.cellK ha hi (j := 4) rfl⟩

theorem take_succ_eq {α : Type} {xs ys : List α} {k : Nat} (h : xs.take k = ys.take k) (h1 : k < xs.length) (h2 : k < ys.length) (he : xs[k] = ys[k]) : xs.take (k + 1) = ys.take (k + 1) := by
  rw [List.take_succ_eq_append_getElem h1, List.take_succ_eq_append_getElem h2, h, he]

/-- A new block that holds the cells of xs. -/
theorem new_At {α : Type} [Dat α] (w : World) (xs : List α) (cs : Array Value) (e : TypeId) (hcs : cs.toList = xs.flatMap Dat.enc) (hm : xs.length ≤ maxLen) (hx : ∀ x ∈ xs, Dat.At w x) :
    Loc.At (w.alloc (.cells cs e)) ⟨some ⟨w.heap.size, 0, none⟩, xs.length, xs⟩ := by
  refine ⟨Nat.le_refl _, hm, fun _ => ⟨_, rfl⟩, fun a ha i x hx' j v hv => ?_, fun x hx' => Dat.belowAll (hx x hx') ((Below.refl _ _).alloc (Nat.le_refl _) _)⟩
  simp only [Option.some.injEq] at ha
  subst ha
  rw [add_lit', Nat.zero_add]
  have hc : (w.alloc (.cells cs e)).cell? ⟨w.heap.size, i * Dat.k α + j, none⟩ = cs[i * Dat.k α + j]? := cell_of_row _ _ _ cs e (0, 0) (heap_alloc_new w _)
  rw [hc, ← Array.getElem?_toList, hcs]
  have key : ∀ (l : List α) (i : Nat) (x : α), l[i]? = some x → (l.flatMap Dat.enc)[i * Dat.k α + j]? = some v ∨ (Dat.enc x)[j]? ≠ some v := by
    intro l
    induction l with
    | nil => intro i x h; simp at h
    | cons y l ih =>
      intro i x h
      have hlen := Dat.len y
      cases i with
      | zero =>
        simp at h; subst h
        by_cases hj : (Dat.enc y)[j]? = some v
        · left
          have hlt := (List.getElem?_eq_some_iff.1 hj).1
          rw [List.flatMap_cons, Nat.zero_mul, Nat.zero_add, List.getElem?_append_left hlt, hj]
        · exact .inr hj
      | succ i =>
        have := ih i x (by simpa using h)
        rcases this with h1 | h1
        · left
          rw [List.flatMap_cons, List.getElem?_append_right (by rw [hlen, Nat.succ_mul]; omega), hlen, Nat.succ_mul]
          rw [← h1]; congr 1; omega
        · exact .inr h1
  exact (key xs i x hx').resolve_right (fun h => h hv)
end Go.Proofs.YtdidkfadiaafiaaGreatDoor
