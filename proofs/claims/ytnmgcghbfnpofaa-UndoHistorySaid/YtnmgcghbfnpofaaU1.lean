/- The history's stacks in memory: pop. -/
import Derived.Test.YtnmgcghbfnpofaaU0
import Derived.BigRegion
namespace Go.Proofs.Ytnmgcghbfnpofaa.Hist
open Go.RowKit Go.Proofs.Ytnmgcghbfnpofaa.PAll Go.Proofs.YtnmgcghbfnpofaaW.PrintWords Go.Proofs.Ytnmgcghbfnpofaa.Open Go.Proofs.Ytnmgcghbfnpofaa.Plain
set_option linter.unusedVariables false

/-- What pop leaves. -/
def Popped (base g j : Nat) (cs : Array Value) (A : Option Addr) (c : Nat) (ys : List S31) (e : S31) (w : World) (r : Ending) (w' : World) : Prop :=
  r = .returned (.tuple #[.agg #[.int .i64 e.f0, .int .i64 e.f1, .string e.f2], .bool true]) ∧ w'.heap[g]? = some (.cells (cs.setIfInBounds j (.slice A ys.length c)) 66 (0, 0)) ∧
    w'.ownsRow base 31 3 (.slice A ys.length c) ys.length (cel ys) ∧ Did w w' (fun k => k = g)

theorem own_pop {w : World} {base : Nat} {A : Option Addr} {c : Nat} {ys : List S31} {e : S31} (h : w.ownsRow base 31 3 (.slice A (ys.length + 1) c) (ys.length + 1) (cel (ys ++ [e]))) :
    w.ownsRow base 31 3 (.slice A ys.length c) ys.length (cel ys) := by
  refine ⟨cel_length ys, ?_⟩
  rcases h.2 with ⟨_, h⟩ | ⟨g, cap, cur, hv, hg, hh, hn, hcap, hsz, htk⟩
  · omega
  · injection hv with h1 h2 h3
    subst h1 h3
    refine .inr ⟨g, c, cur, rfl, hg, hh, by omega, hcap, hsz, ?_⟩
    have := congrArg (List.take (ys.length * 3)) htk
    rw [List.take_take, Nat.min_eq_left (by omega), cel_append, List.take_left' (cel_length ys)] at this
    exact this

/-- The end of pop: the stack's slice is cut by one, two new blocks. -/
theorem pop_end {base g j g' c : Nat} {cs : Array Value} {ys : List S31} {e : S31} {w : World} (o1 o2 : Obj) (hg' : g' ≠ g) (hb : w.heap[g]? = some (.cells cs 66 (0, 0)))
    (hown : w.ownsRow base 31 3 (.slice (some ⟨g', 0, none⟩) (ys.length + 1) c) (ys.length + 1) (cel (ys ++ [e]))) :
    Popped base g j cs (some ⟨g', 0, none⟩) c ys e w (.returned (.tuple #[.agg #[.int .i64 e.f0, .int .i64 e.f1, .string e.f2], .bool true]))
      (((w.setCell ⟨g, j, none⟩ (.slice (some ⟨g', 0, none⟩) ys.length c)).alloc o1).alloc o2).drew.drew := by
  have hs : ∀ i, i < w.heap.size → i ≠ g → ((((w.setCell ⟨g, j, none⟩ (.slice (some ⟨g', 0, none⟩) ys.length c)).alloc o1).alloc o2).drew.drew).heap[i]? = w.heap[i]? := by
    intro i hi hn
    have hz : (w.setCell ⟨g, j, none⟩ (.slice (some ⟨g', 0, none⟩) ys.length c)).heap.size = w.heap.size := by simp [World.setCell]
    refine (Below.heap_alloc (World.alloc _ o1) o2 i (by simp [hz]; omega)).trans ((Below.heap_alloc _ o1 i (by rw [hz]; exact hi)).trans ?_)
    exact Below.heap_setCell w _ _ _ hn
  refine ⟨rfl, blk_drew (blk_drew (blk_alloc (blk_alloc (blk_set hb j _) _) _)), ?_, ⟨⟨?_, fun i hi hn => hs i hi hn⟩, rfl, rfl, rfl⟩⟩
  · refine own_move (own_pop hown) (fun k hk => ?_)
    obtain rfl : g' = k := by simpa [Value.ownBlock] using hk
    exact hs g' (own_lt hown g' (by simp [Value.ownBlock])) hg'
  · simp [World.setCell]; omega
theorem pop_cell {g j : Nat} {w : World} (v : Value) (o1 o2 : Obj) : ((((w.setCell ⟨g, j, none⟩ v).alloc o1).alloc o2).drew.drew).heap[w.heap.size]? = some o1 := by
  refine blk_drew (blk_drew (blk_alloc ?_ _))
  have h := heap_alloc_new (w.setCell ⟨g, j, none⟩ v) o1
  have hz : (w.setCell ⟨g, j, none⟩ v).heap.size = w.heap.size := by simp [World.setCell]
  rw [hz] at h
  exact h

set_option maxRecDepth 100000 in
set_option maxHeartbeats 3200000 in
theorem pop_none (g j : Nat) (cs : Array Value) (A : Option Addr) (c : Nat) (w : World)
    (hb : w.heap[g]? = some (.cells cs 66 (0, 0))) (hj : cs[j]? = some (.slice A 0 c)) :
    Calls Try.prog 57 #[.pointer (some ⟨g, j, none⟩)] w fun r w' => r = .returned (.tuple #[.agg #[.int .i64 0, .int .i64 0, .string ⟨#[]⟩], .bool false]) ∧ Below w.heap.size w w' := by
  have hc : w.cell? ⟨g, j, none⟩ = some (.slice A 0 c) := (blk_cell hb j).trans hj
  have lg := World.block_lt_of_cell? w _ hc
  clear hj hb
  go_enter Try.func57, Try.ntmps57
  go_wp2
  refine bodyPost_ret (results_ct rfl _ _ w.heap.size 31 #[.int .i64 0, .int .i64 0, .string ⟨#[]⟩] (0, 0) _ rfl (by simpa using heap_alloc_new w _) Try.underlying31 rfl (by kernel_rfl)) rfl ?_
  exact ⟨rfl, (Below.refl _ _).alloc (Nat.le_refl _) _⟩

set_option maxRecDepth 100000 in
set_option maxHeartbeats 3200000 in
theorem pop_some (base g j : Nat) (cs : Array Value) (A : Option Addr) (c : Nat) (ys : List S31) (e : S31) (w : World)
    (hb : w.heap[g]? = some (.cells cs 66 (0, 0))) (hj : cs[j]? = some (.slice A (ys.length + 1) c)) (hown : w.ownsRow base 31 3 (.slice A (ys.length + 1) c) (ys.length + 1) (cel (ys ++ [e]))) (hl : ys.length ≤ 1000000) :
    Calls Try.prog 57 #[.pointer (some ⟨g, j, none⟩)] w (Popped base g j cs A c ys e w) := by
  have hc : w.cell? ⟨g, j, none⟩ = some (.slice A (ys.length + 1) c) := (blk_cell hb j).trans hj
  have hf : w.frozen? ⟨g, j, none⟩ = false := blk_frozen hb j
  have lg := World.block_lt_of_cell? w _ hc
  have hne : ((((ys.length + 1 : Nat) : Int)) == 0) = false := beq_eq_false_iff_ne.2 (by omega)
  obtain ⟨g', hA, hcells, hg'⟩ : ∃ g', A = some ⟨g', 0, none⟩ ∧ (∀ k u, (cel (ys ++ [e]))[k]? = some u → w.cell? ⟨g', k, none⟩ = some u) ∧ g' ≠ g := by
    rcases hown.2 with ⟨_, h⟩ | ⟨g', cap, cur, hv, _, hh, _, _, _, htk⟩
    · omega
    · injection hv with h1 h2 h3
      refine ⟨g', h1, fun k u hk => ?_, ?_⟩
      · rw [blk_cell hh k, ← Array.getElem?_toList]
        rw [← htk] at hk
        have hlt := (List.getElem?_eq_some_iff.1 hk).1
        rw [List.getElem?_take_of_lt (by simp at hlt; omega)] at hk
        exact hk
      · rintro rfl
        rw [hb] at hh
        injection hh with hh
        injection hh with _ h66
        exact absurd h66 (by decide)
  subst hA
  have q0 : w.cell? ⟨g', ys.length * 3, none⟩ = some (.int .i64 e.f0) := hcells _ _ (by rw [cel_append, List.getElem?_append_right (by rw [cel_length]; omega), cel_length, Nat.sub_self]; rfl)
  have q1 : w.cell? ⟨g', ys.length * 3 + 1, none⟩ = some (.int .i64 e.f1) := hcells _ _ (by rw [cel_append, List.getElem?_append_right (by rw [cel_length]; omega), cel_length, Nat.add_sub_cancel_left]; rfl)
  have q2 : w.cell? ⟨g', ys.length * 3 + 2, none⟩ = some (.string e.f2) := hcells _ _ (by rw [cel_append, List.getElem?_append_right (by rw [cel_length]; omega), cel_length, Nat.add_sub_cancel_left]; rfl)
  have lg' := World.block_lt_of_cell? w _ q0
  have HOWN := Aside0.mk hown
  have HJ := Aside0.mk hj
  have HB := Aside0.mk hb
  clear hown hj hb hcells
  go_enter Try.func57, Try.ntmps57
  go_wp2
  have z0 : (w.alloc (.cells #[.int .i64 0, .int .i64 0, .string ⟨#[]⟩] 31)).cell? ⟨g, j, none⟩ = some (.slice (some ⟨g', 0, none⟩) (ys.length + 1) c) := by rw [World.cell?_alloc_lt _ _ _ lg]; exact hc
  have z1 : (w.alloc (.cells #[.int .i64 0, .int .i64 0, .string ⟨#[]⟩] 31)).cell? ⟨g', ys.length * 3, none⟩ = some (.int .i64 e.f0) := by rw [World.cell?_alloc_lt _ _ _ lg']; exact q0
  have z2 : (w.alloc (.cells #[.int .i64 0, .int .i64 0, .string ⟨#[]⟩] 31)).cell? ⟨g', ys.length * 3 + 1, none⟩ = some (.int .i64 e.f1) := by rw [World.cell?_alloc_lt _ _ _ lg']; exact q1
  have z3 : (w.alloc (.cells #[.int .i64 0, .int .i64 0, .string ⟨#[]⟩] 31)).cell? ⟨g', ys.length * 3 + 2, none⟩ = some (.string e.f2) := by rw [World.cell?_alloc_lt _ _ _ lg']; exact q2
  have n0 := World.new_ne _ _ z0
  have n1 := World.new_ne _ _ z1
  have n2 := World.new_ne _ _ z2
  have n3 := World.new_ne _ _ z3
  have s1 : IntKind.i64.wrap ((ys.length : Int) + 1 - 1) = (ys.length : Int) := by rw [IntWalk.i64_in _ (by omega)]; omega
  have s2 : (0 : Int) ≤ (ys.length : Int) := Int.natCast_nonneg _
  have s3 : (ys.length : Int) < (ys.length : Int) + 1 := by omega
  have s5 : (ys.length : Int) ≤ (c : Int) := by obtain ⟨_, _, he, h, _⟩ := own_slice HOWN.out; injection he with _ _ h3; omega
  have s6 : IntKind.i64.wrap (ys.length : Int) = (ys.length : Int) := IntWalk.i64_in _ (by omega)
  have s4 : (ys.length : Int) < ((ys.length + 1 : Nat) : Int) := by omega
  go_region
  go_wp2
  have hbb := Aside0.mk (blk_drew (blk_alloc (blk_alloc HB.out (.cells #[.int .i64 0, .int .i64 0, .string ⟨#[]⟩] 31)) (.cells #[.int .i64 e.f0, .int .i64 e.f1, .string e.f2] 31)))
  have hb2 := (blk_cell hbb.out j).trans HJ.out
  have hb3 := blk_frozen hbb.out j
  go_region
  go_wp2
  refine bodyPost_ret (results_ct rfl _ _ w.heap.size 31 #[.int .i64 e.f0, .int .i64 e.f1, .string e.f2] (0, 0) _ rfl (pop_cell _ _ _) Try.underlying31 rfl (by kernel_rfl)) rfl ?_
  exact pop_end _ _ hg' HB.out HOWN.out
end Go.Proofs.Ytnmgcghbfnpofaa.Hist
