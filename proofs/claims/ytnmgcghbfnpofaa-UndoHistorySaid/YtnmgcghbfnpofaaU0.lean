/- The history's stacks in memory: a slice of edits that the history owns; push and pop. -/
import Derived.Test.YtnmgcghbfnpofaaQ0
import Derived.Test.YtnmgcghbfnpofaaR0
import Derived.Tactics
import Derived.Tactics2
import Derived.WalkKit
import Derived.WalkSpells
import Derived.StillTactics
import Derived.OwnWalk
import Derived.Laws.Pointers
import Derived.Deep.RegionHeld3
import Derived.Deep.RegionLaw
import Derived.Deep.AppendLies
import Derived.KernelRfl
import Derived.Outline
import Derived.Deep.DeepFit
namespace Go.Proofs.Ytnmgcghbfnpofaa.Hist
open Go.RowKit Go.Proofs.Ytnmgcghbfnpofaa.PAll Go.Proofs.YtnmgcghbfnpofaaW.PrintWords Go.Proofs.Ytnmgcghbfnpofaa.Open Go.Proofs.Ytnmgcghbfnpofaa.Plain
set_option linter.unusedVariables false

/-- The cells of a list of edits. -/
def cel : List S31 → List Value
  | [] => []
  | e :: l => .int .i64 e.f0 :: .int .i64 e.f1 :: .string e.f2 :: cel l
theorem cel_append (a b : List S31) : cel (a ++ b) = cel a ++ cel b := by
  induction a with
  | nil => rfl
  | cons e l ih => simp [cel, ih]
theorem cel_length (a : List S31) : (cel a).length = a.length * 3 := by
  induction a with
  | nil => rfl
  | cons e l ih => simp only [cel, List.length_cons, ih]; omega


theorem own_slice {w : World} {base n : Nat} {e : TypeId} {size : Nat} {v : Value} {xs : List Value} (h : w.ownsRow base e size v n xs) : ∃ A c, v = .slice A n c ∧ n ≤ c ∧ ∀ k, v.ownBlock = some k → base ≤ k ∧ k < w.heap.size := by
  rcases h.2 with ⟨rfl, rfl⟩ | ⟨g, cap, cur, rfl, hg, hh, hn, _⟩
  · exact ⟨none, 0, rfl, Nat.le_refl _, fun k hk => by simp [Value.ownBlock] at hk⟩
  · refine ⟨some ⟨g, 0, none⟩, cap, rfl, hn, fun k hk => ?_⟩
    obtain rfl : g = k := by simpa [Value.ownBlock] using hk
    exact ⟨hg, blk_lt hh⟩

theorem far2 {w w1 : World} {o1 o2 : Obj} {row : Option Nat} (hg : ((w.alloc o1).alloc o2).drew.grownBy w1 row) {b : Nat} (h : b < w.heap.size) (hn : some b ≠ row) : w1.heap[b]? = w.heap[b]? := by
  rw [hg.block b (by simp; omega) hn]
  exact (Below.heap_alloc (w.alloc o1) o2 b (by simp; omega)).trans (Below.heap_alloc w o1 b h)
theorem far2b {w w1 : World} {o1 o2 : Obj} {row : Option Nat} (hg : ((w.alloc o1).alloc o2).drew.grownBy w1 row) (hn : some w.heap.size ≠ row) : w1.heap[w.heap.size]? = some o1 := by
  rw [hg.block w.heap.size (by simp; omega) hn]
  exact (Below.heap_alloc (w.alloc o1) o2 w.heap.size (by simp)).trans (by simpa using heap_alloc_new w o1)

/-- What a call on a history may have turned: only blocks of F, and what is new; the streams are as they were. -/
structure Did (w w' : World) (F : Nat → Prop) : Prop where
  kept : Kept w w' F
  os : w'.os = w.os
  tape : w'.tape = w.tape
  output : w'.output = w.output
theorem Did.refl (w : World) (F : Nat → Prop) : Did w w F := ⟨Kept.refl _ _, rfl, rfl, rfl⟩
theorem Did.of_below {w w' : World} (h : Below w.heap.size w w') (F : Nat → Prop) : Did w w' F := ⟨Kept.of_below h F, h.os, h.tape, h.output⟩
theorem Did.then_ {w w1 w2 : World} {F F1 : Nat → Prop} (h : Did w w1 F) (k : Did w1 w2 F1) (hs : ∀ k, F1 k → F k ∨ w.heap.size ≤ k) : Did w w2 F :=
  ⟨h.kept.then_ k.kept hs, k.os.trans h.os, k.tape.trans h.tape, k.output.trans h.output⟩
theorem Did.mono {w w' : World} {F F1 : Nat → Prop} (h : Did w w' F) (hs : ∀ k, F k → F1 k) : Did w w' F1 := ⟨h.kept.mono hs, h.os, h.tape, h.output⟩
theorem Did.setCell {w w' : World} {F : Nat → Prop} (h : Did w w' F) {p : Addr} (hp : F p.block ∨ w.heap.size ≤ p.block) (u : Value) : Did w (w'.setCell p u) F := ⟨h.kept.setCell hp u, h.os, h.tape, h.output⟩
theorem Did.alloc {w w' : World} {F : Nat → Prop} (h : Did w w' F) (o : Obj) : Did w (w'.alloc o) F := ⟨h.kept.alloc o, h.os, h.tape, h.output⟩
theorem Did.drew {w w' : World} {F : Nat → Prop} (h : Did w w' F) : Did w w'.drew F := ⟨h.kept, h.os, h.tape, h.output⟩
theorem Did.drewN {w w' : World} {F : Nat → Prop} (h : Did w w' F) (n : Nat) : Did w (w'.drewN n) F := ⟨h.kept, h.os, h.tape, h.output⟩
theorem Did.size {w w' : World} {F : Nat → Prop} (h : Did w w' F) : w.heap.size ≤ w'.heap.size := And.left h.kept
theorem Did.below {w w' : World} {F : Nat → Prop} (h : Did w w' F) {B : Nat} (hB : B ≤ w.heap.size) (hF : ∀ k, F k → B ≤ k) : Below B w w' :=
  ⟨h.os, h.tape, h.output, h.kept.1, fun k hk => h.kept.2 k (by omega) (fun hf => by have := hF k hf; omega)⟩
theorem Did.block {w w' : World} {F : Nat → Prop} (h : Did w w' F) {k : Nat} (hk : k < w.heap.size) (hn : ¬ F k) : w'.heap[k]? = w.heap[k]? := h.kept.2 k hk hn

/-- What push leaves. -/
def Pushed (base g j : Nat) (cs : Array Value) (v : Value) (xs : List S31) (e : S31) (w : World) (r : Ending) (w' : World) : Prop :=
  r = .returned (.tuple #[]) ∧ ∃ v', w'.heap[g]? = some (.cells (cs.setIfInBounds j v') 66 (0, 0)) ∧ w'.ownsRow base 31 3 v' (xs.length + 1) (cel (xs ++ [e])) ∧
    (∀ k, v'.ownBlock = some k → v.ownBlock = some k ∨ w.heap.size ≤ k) ∧ Did w w' (fun k => k = g ∨ v.ownBlock = some k)
theorem push_end {base g j gg cap : Nat} {cs : Array Value} {v : Value} {xs : List S31} {e : S31} {w w1 : World} {o1 o2 : Obj}
    (lg : g < w.heap.size) (hne : some g ≠ v.ownBlock) (hlo : ∀ k, v.ownBlock = some k → base ≤ k ∧ k < w.heap.size)
    (hbw : w1.heap[g]? = some (.cells cs 66 (0, 0))) (hown1 : w1.ownsRow base 31 3 (.slice (some ⟨gg, 0, none⟩) (xs.length + 1) cap) (xs.length + 1) (cel xs ++ cel [e]))
    (hgrow : ((w.alloc o1).alloc o2).drew.grownBy w1 v.ownBlock) (hat : v.ownBlock = some gg ∨ gg = w.heap.size + 2) :
    Pushed base g j cs v xs e w (.returned (.tuple #[])) (w1.setCell ⟨g, j, none⟩ (.slice (some ⟨gg, 0, none⟩) (xs.length + 1) cap)) := by
  have hgg : gg ≠ g := by
    rintro rfl
    rcases hat with h | h
    · exact hne h.symm
    · omega
  have hsz : w.heap.size + 2 ≤ w1.heap.size := by have := hgrow.size; simpa using this
  refine ⟨rfl, .slice (some ⟨gg, 0, none⟩) (xs.length + 1) cap, blk_set hbw j _, ?_, ?_, ⟨⟨?_, ?_⟩, ?_, ?_, ?_⟩⟩
  · rw [cel_append]
    refine own_move hown1 (fun k hk => ?_)
    obtain rfl : gg = k := by simpa [Value.ownBlock] using hk
    exact Below.heap_setCell w1 _ _ _ hgg
  · intro k hk
    obtain rfl : gg = k := by simpa [Value.ownBlock] using hk
    rcases hat with h | h
    · exact .inl h
    · right; omega
  · simp only [World.setCell, Array.size_modify]; omega
  · intro i hi hn
    rw [Below.heap_setCell w1 _ _ _ (fun h => hn (.inl h))]
    exact far2 hgrow hi (fun h => hn (.inr h.symm))
  · exact hgrow.os
  · exact hgrow.tape
  · exact hgrow.output

set_option maxRecDepth 100000 in
set_option maxHeartbeats 3200000 in
theorem push_any (base g j : Nat) (cs : Array Value) (v : Value) (xs : List S31) (e : S31) (w : World)
    (hb : w.heap[g]? = some (.cells cs 66 (0, 0))) (hj : cs[j]? = some v) (hown : w.ownsRow base 31 3 v xs.length (cel xs)) (hbase : base ≤ w.heap.size) (hl : xs.length ≤ 1000000) :
    Calls Try.prog 48 #[.pointer (some ⟨g, j, none⟩), .agg #[.int .i64 e.f0, .int .i64 e.f1, .string e.f2]] w (Pushed base g j cs v xs e w) := by
  obtain ⟨i0, hi0, hz0, hz1, hz2⟩ := info_parts info31
  have hc : w.cell? ⟨g, j, none⟩ = some v := (blk_cell hb j).trans hj
  obtain ⟨A, c, rfl, hnc, hlt⟩ := own_slice hown
  have lg := World.block_lt_of_cell? w _ hc
  have hne : some g ≠ (Value.slice A xs.length c).ownBlock := by
    intro he
    obtain ⟨cells, hh⟩ := own_typed hown g he.symm
    rw [hb] at hh
    injection hh with hh
    injection hh with _ h66
    exact absurd h66 (by decide)
  have HOWN := Aside0.mk hown
  have HJ := Aside0.mk hj
  have HB := Aside0.mk hb
  have HNE := Aside0.mk hne
  have HLT := Aside0.mk hlt
  clear hown hj hb hne hlt
  go_enter Try.func48, Try.ntmps48
  go_wp2_with fail
  have hb1 : (w.alloc (.cells #[.int .i64 e.f0, .int .i64 e.f1, .string e.f2] 31)).heap[w.heap.size]? = some (.cells #[.int .i64 e.f0, .int .i64 e.f1, .string e.f2] 31 (0, 0)) := by simpa using heap_alloc_new w _
  have c0 := (blk_cell hb1 0).trans rfl
  have c1 := (blk_cell hb1 1).trans rfl
  have c2 := (blk_cell hb1 2).trans rfl
  have hc' : (w.alloc (.cells #[.int .i64 e.f0, .int .i64 e.f1, .string e.f2] 31)).cell? ⟨g, j, none⟩ = some (.slice A xs.length c) := by rw [World.cell?_alloc_lt _ _ _ lg]; exact hc
  have hb2 : ∀ o1 o2 : Obj, ((w.alloc o1).alloc o2).heap[w.heap.size + 1]? = some o2 := fun o1 o2 => by simpa using heap_alloc_new (w.alloc o1) o2
  have HB2 := Aside0.mk hb2
  have HN2 : Aside0 (some w.heap.size ≠ (Value.slice A xs.length c).ownBlock) := ⟨fun h => by have := (HLT.out _ h.symm).2; omega⟩
  clear hb1 hb2
  go_region_law
    ((refine step_append_lies _ (by rfl) _ _ _ (by rfl) base 31 i0 _ 3 32 Try.underlying64 hi0 hz0 hz1 hz2 rfl (by omega) (.slice A xs.length c) xs.length (cel xs) (by rfl) (((HOWN.out.alloc _).alloc _).drew)
        ⟨w.heap.size + 1, 0, none⟩ 1 1 (cel [e]) (by rfl) (by rfl) (World.news_of_block (cs := #[.int .i64 e.f0, .int .i64 e.f1, .string e.f2]) (t := 31) (fr := (0, 0)) (HB2.out _ _)) (by simp [cel, Value.oneCell'])
        (by omega) (by unfold maxLen; omega) (by omega) (by simp; omega) (w.heap.size + 2) (by simp) ?_; intro gg cap w1 hown1 hgrow hat hlt; have hbw := Aside0.mk ((far2 hgrow lg HNE.out).trans HB.out); have hbx := Aside0.mk (far2b hgrow HN2.out); have k0 := (blk_cell hbw.out j).trans HJ.out; have f0 := blk_frozen hbw.out j; have k1 := (blk_cell hbx.out 0).trans rfl; have k2 := (blk_cell hbx.out 1).trans rfl; have k3 := (blk_cell hbx.out 2).trans rfl))
  all_goals
    go_wp2
    go_end0
    exact push_end lg HNE.out HLT.out hbw.out hown1 hgrow hat
end Go.Proofs.Ytnmgcghbfnpofaa.Hist
