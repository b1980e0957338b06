/- Stores of empty trees and logs: eqStore, markStore, heldStore; a new one. -/
import Derived.Test.YtcfbppdfiehlnaaSto
namespace Go.Proofs.Ytcfbppdfiehlnaa
open Go Go.RowKit

structure LStore where
  ta : Option Addr
  tc : Nat
  from_ : Int
  ra : Option Addr
  rc : Nat
  safe : Int
  checks : Loc LCheck
structure Store where
  from_ : Int
  safe : Int
  checks : List Check
  deriving DecidableEq
def LStore.cells (s : LStore) : List Value := [.slice s.ta 0 s.tc, .int .i64 s.from_, .slice s.ra 0 s.rc, .int .i64 s.safe, s.checks.val]
def LStore.val (s : LStore) : Value := .agg #[.slice s.ta 0 s.tc, .int .i64 s.from_, .slice s.ra 0 s.rc, .int .i64 s.safe, s.checks.val]
def LStore.er (s : LStore) : Store := ⟨s.from_, s.safe, s.checks.xs.map LCheck.er⟩
instance : Dat LStore where
  k := 5
  kpos := by omega
  enc := LStore.cells
  len _ := rfl
  one x v hv := by simp [LStore.cells] at hv; rcases hv with rfl | rfl | rfl | rfl | rfl <;> rfl
  At w s := s.checks.At w
  fp s := s.checks.fp
  lt h := Loc.lt_of_At h
  keep h hk := Loc.keep_At h hk
theorem Loc.At.sto {w : World} {l : Loc LStore} (h : l.At w) {b o : Nat} (ha : l.a = some ⟨b, o, none⟩) {i : Nat} (hi : i < l.xs.length) :
    w.cell? ⟨b, o + i * 5, none⟩ = some (.slice (l.xs[i]).ta 0 (l.xs[i]).tc) ∧ w.cell? ⟨b, o + i * 5 + 1, none⟩ = some (.int .i64 (l.xs[i]).from_) ∧ w.cell? ⟨b, o + i * 5 + 2, none⟩ = some (.slice (l.xs[i]).ra 0 (l.xs[i]).rc) ∧
      w.cell? ⟨b, o + i * 5 + 3, none⟩ = some (.int .i64 (l.xs[i]).safe) ∧ w.cell? ⟨b, o + i * 5 + 4, none⟩ = some (l.xs[i]).checks.val :=
  ⟨h.cellK ha hi (j := 0) rfl, h.cellK ha hi (j := 1) rfl, h.cellK ha hi (j := 2) rfl, h.cellK ha hi (j := 3) rfl, h.cellK ha hi (j := 4) rfl⟩

set_option maxRecDepth 100000 in
theorem eqLog_nil (f g : Int) (a b : Option Addr) (c d : Nat) (w : World) :
    Calls Try.prog 17 #[.agg #[.int .i64 f, .slice a 0 c], .agg #[.int .i64 g, .slice b 0 d]] w (EqPost w (f = g)) := by
  have hB := ((Below.refl w.heap.size w).alloc (Nat.le_refl _) (Obj.cells #[.int .i64 f, .slice a 0 c] 25)).alloc (by simp) (Obj.cells #[.int .i64 g, .slice b 0 d] 25)
  have HB := Lib.hid hB
  clear hB
  go_enter Try.func17, Try.ntmps17
  go_wp2_with (go_at_call 30; refine (eqRecS_nil a b c d _).mono ?_; rintro e w' ⟨rfl, rfl⟩)
  all_goals
    go_ret
    refine ⟨⟨_, rfl, ?_⟩, by first | exact HB.out | exact belowN HB.out _⟩
    simp_all
set_option maxRecDepth 100000 in
theorem markLog_nil (f : Int) (a : Option Addr) (c : Nat) (k : Nat) (w : World) :
    Calls Try.prog 20 #[.agg #[.int .i64 f, .slice a 0 c], .int .i64 k] w fun e w' => e = .returned (.int .i64 k) ∧ Below w.heap.size w w' := by
  have hB := ((Below.refl w.heap.size w).alloc (Nat.le_refl _) (Obj.cells #[.int .i64 f, .slice a 0 c] 25))
  have HB := Lib.hid hB
  have hk : ¬ ((k : Nat) : Int) < 0 := by omega
  clear hB
  go_enter Try.func20, Try.ntmps20
  go_wp2_with (go_at_call 34; refine (markRecS_nil a c _ _).mono ?_; rintro e w' ⟨rfl, rfl⟩)
  go_ret
  exact ⟨rfl, by first | exact HB.out | exact belowN HB.out _⟩
set_option maxRecDepth 100000 in
theorem heldLog_nil (f : Int) (a : Option Addr) (c : Nat) (k : Nat) (w : World) :
    Calls Try.prog 23 #[.agg #[.int .i64 f, .slice a 0 c], .int .i64 k] w fun e w' => e = .returned (.int .i64 k) ∧ Below w.heap.size w w' := by
  have hB := ((Below.refl w.heap.size w).alloc (Nat.le_refl _) (Obj.cells #[.int .i64 f, .slice a 0 c] 25))
  have HB := Lib.hid hB
  have hk : ¬ ((k : Nat) : Int) < 0 := by omega
  clear hB
  go_enter Try.func23, Try.ntmps23
  go_wp2_with (go_at_call 36; refine (heldRecS_nil a c _ _).mono ?_; rintro e w' ⟨rfl, rfl⟩)
  go_ret
  exact ⟨rfl, by first | exact HB.out | exact belowN HB.out _⟩
end Go.Proofs.Ytcfbppdfiehlnaa
