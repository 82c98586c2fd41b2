/- The laws' 'run': one call of a history. Written by a program of this session (gen_run.py). -/
import Derived.Test.YtnmgcghbfnpofaaU5
namespace Go.Proofs.Ytnmgcghbfnpofaa.Hist
open Go.RowKit Go.Proofs.Ytnmgcghbfnpofaa.PAll Go.Proofs.YtnmgcghbfnpofaaW.PrintWords Go.Proofs.Ytnmgcghbfnpofaa.Open Go.Proofs.Ytnmgcghbfnpofaa.Plain
set_option linter.unusedVariables false

/-- A block that was new ahead of a history's call is as it was behind it. -/
theorem run_cell {base g b : Nat} {F : Nat → Prop} {m m' : M} {w W w1 : World} {o : Obj} (h : HistM base w g F m) (hb : W.heap[b]? = some o) (hl : w.heap.size ≤ b) (hto : ToM base g F m' W w1) : w1.heap[b]? = some o := by
  obtain ⟨F', _, _, hd⟩ := hto
  exact (hd.block (k := b) (blk_lt hb) (fun hk => Nat.lt_irrefl _ (Nat.lt_of_lt_of_le (h.lt _ hk).2 hl))).trans hb
theorem run_last {w3 : World} {b k : Nat} (hn : k ≠ b) (a c d : Value) : (((w3.setCell ⟨b, 0, none⟩ a).setCell ⟨b, 1, none⟩ c).setCell ⟨b, 2, none⟩ d).heap[k]? = w3.heap[k]? :=
  (Below.heap_setCell _ ⟨b, 2, none⟩ _ k hn).trans ((Below.heap_setCell _ ⟨b, 1, none⟩ _ k hn).trans (Below.heap_setCell _ ⟨b, 0, none⟩ _ k hn))
theorem run_end {base g b : Nat} {F : Nat → Prop} {m m' : M} {w W w1 : World} (h : HistM base w g F m) (hB : Below w.heap.size w W) (hb : w.heap.size ≤ b) (hlt : b < W.heap.size) (hto : ToM base g F m' W w1) {a c d : Value} :
    ToM base g F m' w (((w1.setCell ⟨b, 0, none⟩ a).setCell ⟨b, 1, none⟩ c).setCell ⟨b, 2, none⟩ d) := by
  obtain ⟨F', h1, h2, h3⟩ := hto
  have hF : ∀ k, F' k → k ≠ b := fun k hk e => by
    subst e
    rcases h2 _ hk with h' | h'
    · have := (h.lt _ h').2; omega
    · omega
  have d0 : Did w W F := Did.of_below hB F
  have d1 : Did w w1 F := d0.then_ h3 (fun k hk => .inl hk)
  refine ⟨F', h1.keep (fun k hk => run_last (hF k hk) a c d) (Nat.le_of_eq (mv_size b a c d).symm), fun k hk => ?_, ((d1.setCell (p := ⟨b, 0, none⟩) (.inr hb) a).setCell (p := ⟨b, 1, none⟩) (.inr hb) c).setCell (p := ⟨b, 2, none⟩) (.inr hb) d⟩
  rcases h2 k hk with h' | h'
  · exact .inl h'
  · right; omega

theorem do_err_same {m : M} {e : S31} (h : (doM m e).2 ≠ 0) : (doM m e).1 = m := by
  unfold doM at h ⊢
  split
  · rename_i hf
    rw [if_pos hf] at h
    split
    · rfl
    · rename_i hl
      rw [if_neg hl] at h
      exact absurd rfl h
  · rfl

set_option maxRecDepth 100000 in
set_option maxHeartbeats 3200000 in
theorem run_undo {base g n : Nat} {F : Nat → Prop} {s0 : ByteArray} {m : M} {w : World} (x : S36) (h : HistM base w g F m) (hg : Good s0 m) (hs : Small n m) (hn : n ≤ 100000) (hx0 : 0 ≤ x.f0) (hx1 : x.f0 ≤ 255) (hxz : x.f1.f2.size ≤ 1099511627776)
    (hk : x.f0 % 3 = 1) :
    Calls Try.prog 21 #[.pointer (some ⟨g, 0, none⟩), .agg #[.int .u8 x.f0, .int .i64 x.f1.f0, .int .i64 x.f1.f1, .string x.f1.f2]] w fun r w' => r = .returned (.tuple #[.agg #[.int .i64 (undoM m).2.1.f0, .int .i64 (undoM m).2.1.f1, .string (undoM m).2.1.f2], .int .i64 (undoM m).2.2]) ∧ ToM base g F (undoM m).1 w w' := by
  have HH := Aside0.mk h
  have HG := Aside0.mk hg
  have HS := Aside0.mk hs
  have hk1 : ((x.f0 % 3 : Int) == 1) = true := beq_iff_eq.2 hk
  clear hk
  clear h hg hs
  go_enter Try.func21, Try.ntmps21
  go_wp2_with fail
  have hx0' : ((w.alloc (.cells #[.int .u8 x.f0, .int .i64 x.f1.f0, .int .i64 x.f1.f1, .string x.f1.f2] 36)).alloc (.cells #[.int .i64 0, .int .i64 0, .string ⟨#[]⟩] 31)).heap[w.heap.size]? = some (.cells #[.int .u8 x.f0, .int .i64 x.f1.f0, .int .i64 x.f1.f1, .string x.f1.f2] 36 (0, 0)) := blk_alloc (by simpa using heap_alloc_new w _) _
  have hx1' : ((w.alloc (.cells #[.int .u8 x.f0, .int .i64 x.f1.f0, .int .i64 x.f1.f1, .string x.f1.f2] 36)).alloc (.cells #[.int .i64 0, .int .i64 0, .string ⟨#[]⟩] 31)).heap[w.heap.size + 1]? = some (.cells #[.int .i64 0, .int .i64 0, .string ⟨#[]⟩] 31 (0, 0)) := by simpa using heap_alloc_new (w.alloc _) _
  have hx4 : Below w.heap.size w ((w.alloc (.cells #[.int .u8 x.f0, .int .i64 x.f1.f0, .int .i64 x.f1.f1, .string x.f1.f2] 36)).alloc (.cells #[.int .i64 0, .int .i64 0, .string ⟨#[]⟩] 31)) := ((Below.refl _ _).alloc (Nat.le_refl _) _).alloc (by simp) _
  generalize (w.alloc (.cells #[.int .u8 x.f0, .int .i64 x.f1.f0, .int .i64 x.f1.f1, .string x.f1.f2] 36)).alloc (.cells #[.int .i64 0, .int .i64 0, .string ⟨#[]⟩] 31) = W at hx0' hx1' hx4 ⊢
  have X0 := Aside0.mk hx0'
  have X1 := Aside0.mk hx1'
  have X4 := Aside0.mk hx4
  have XH : Aside0 (HistM base W g F m) := ⟨HH.out.below X4.out⟩
  clear hx0' hx1' hx4
  go_wp2_with (go_at_call 29; (with_reducible refine (undo_call (n := n) (F := F) (m := m) (w := W) XH.out HG.out HS.out hn).mono ?_); rintro r w1 ⟨rfl, hto⟩; have TO := Aside0.mk hto; have Z0 := Aside0.mk (run_cell HH.out X0.out (Nat.le_refl _) hto); have Z1 := Aside0.mk (run_cell HH.out X1.out (Nat.le_succ _) hto); clear hto; have z0 : w1.cell? ⟨w.heap.size + 1, 0, none⟩ = some (.int .i64 0) := (blk_cell Z1.out 0).trans rfl; have z1 : w1.cell? ⟨w.heap.size + 1, 1, none⟩ = some (.int .i64 0) := (blk_cell Z1.out 1).trans rfl; have z2 : w1.cell? ⟨w.heap.size + 1, 2, none⟩ = some (.string ⟨#[]⟩) := (blk_cell Z1.out 2).trans rfl; have y0 := blk_frozen Z1.out 0; have y1 := blk_frozen Z1.out 1; have y2 := blk_frozen Z1.out 2; have b1 : w1.cell? ⟨w.heap.size, 1, none⟩ = some (.int .i64 x.f1.f0) := (blk_cell Z0.out 1).trans rfl; have b2 : w1.cell? ⟨w.heap.size, 2, none⟩ = some (.int .i64 x.f1.f1) := (blk_cell Z0.out 2).trans rfl; have b3 : w1.cell? ⟨w.heap.size, 3, none⟩ = some (.string x.f1.f2) := (blk_cell Z0.out 3).trans rfl)
  refine bodyPost_ret (results_ct rfl _ _ (w.heap.size + 1) 31 #[.int .i64 (undoM m).2.1.f0, .int .i64 (undoM m).2.1.f1, .string (undoM m).2.1.f2] (0, 0) _ rfl (blk_put (blk_put (blk_put Z1.out 0 _ rfl) 1 _ rfl) 2 _ rfl) Try.underlying31 rfl (by kernel_rfl)) rfl ?_
  exact ⟨rfl, run_end HH.out X4.out (Nat.le_succ _) (blk_lt X1.out) TO.out⟩

set_option maxRecDepth 100000 in
set_option maxHeartbeats 3200000 in
theorem run_redo {base g n : Nat} {F : Nat → Prop} {s0 : ByteArray} {m : M} {w : World} (x : S36) (h : HistM base w g F m) (hg : Good s0 m) (hs : Small n m) (hn : n ≤ 100000) (hx0 : 0 ≤ x.f0) (hx1 : x.f0 ≤ 255) (hxz : x.f1.f2.size ≤ 1099511627776)
    (hk : x.f0 % 3 = 2) :
    Calls Try.prog 21 #[.pointer (some ⟨g, 0, none⟩), .agg #[.int .u8 x.f0, .int .i64 x.f1.f0, .int .i64 x.f1.f1, .string x.f1.f2]] w fun r w' => r = .returned (.tuple #[.agg #[.int .i64 (redoM m).2.1.f0, .int .i64 (redoM m).2.1.f1, .string (redoM m).2.1.f2], .int .i64 (redoM m).2.2]) ∧ ToM base g F (redoM m).1 w w' := by
  have HH := Aside0.mk h
  have HG := Aside0.mk hg
  have HS := Aside0.mk hs
  have hk1 : ((x.f0 % 3 : Int) == 1) = false := beq_eq_false_iff_ne.2 (by omega)
  have hk2 : ((x.f0 % 3 : Int) == 2) = true := beq_iff_eq.2 hk
  clear hk
  clear h hg hs
  go_enter Try.func21, Try.ntmps21
  go_wp2_with fail
  have hx0' : ((w.alloc (.cells #[.int .u8 x.f0, .int .i64 x.f1.f0, .int .i64 x.f1.f1, .string x.f1.f2] 36)).alloc (.cells #[.int .i64 0, .int .i64 0, .string ⟨#[]⟩] 31)).heap[w.heap.size]? = some (.cells #[.int .u8 x.f0, .int .i64 x.f1.f0, .int .i64 x.f1.f1, .string x.f1.f2] 36 (0, 0)) := blk_alloc (by simpa using heap_alloc_new w _) _
  have hx1' : ((w.alloc (.cells #[.int .u8 x.f0, .int .i64 x.f1.f0, .int .i64 x.f1.f1, .string x.f1.f2] 36)).alloc (.cells #[.int .i64 0, .int .i64 0, .string ⟨#[]⟩] 31)).heap[w.heap.size + 1]? = some (.cells #[.int .i64 0, .int .i64 0, .string ⟨#[]⟩] 31 (0, 0)) := by simpa using heap_alloc_new (w.alloc _) _
  have hx4 : Below w.heap.size w ((w.alloc (.cells #[.int .u8 x.f0, .int .i64 x.f1.f0, .int .i64 x.f1.f1, .string x.f1.f2] 36)).alloc (.cells #[.int .i64 0, .int .i64 0, .string ⟨#[]⟩] 31)) := ((Below.refl _ _).alloc (Nat.le_refl _) _).alloc (by simp) _
  generalize (w.alloc (.cells #[.int .u8 x.f0, .int .i64 x.f1.f0, .int .i64 x.f1.f1, .string x.f1.f2] 36)).alloc (.cells #[.int .i64 0, .int .i64 0, .string ⟨#[]⟩] 31) = W at hx0' hx1' hx4 ⊢
  have X0 := Aside0.mk hx0'
  have X1 := Aside0.mk hx1'
  have X4 := Aside0.mk hx4
  have XH : Aside0 (HistM base W g F m) := ⟨HH.out.below X4.out⟩
  clear hx0' hx1' hx4
  go_wp2_with (go_at_call 30; (with_reducible refine (redo_call (n := n) (F := F) (m := m) (w := W) XH.out HG.out HS.out hn).mono ?_); rintro r w1 ⟨rfl, hto⟩; have TO := Aside0.mk hto; have Z0 := Aside0.mk (run_cell HH.out X0.out (Nat.le_refl _) hto); have Z1 := Aside0.mk (run_cell HH.out X1.out (Nat.le_succ _) hto); clear hto; have z0 : w1.cell? ⟨w.heap.size + 1, 0, none⟩ = some (.int .i64 0) := (blk_cell Z1.out 0).trans rfl; have z1 : w1.cell? ⟨w.heap.size + 1, 1, none⟩ = some (.int .i64 0) := (blk_cell Z1.out 1).trans rfl; have z2 : w1.cell? ⟨w.heap.size + 1, 2, none⟩ = some (.string ⟨#[]⟩) := (blk_cell Z1.out 2).trans rfl; have y0 := blk_frozen Z1.out 0; have y1 := blk_frozen Z1.out 1; have y2 := blk_frozen Z1.out 2; have b1 : w1.cell? ⟨w.heap.size, 1, none⟩ = some (.int .i64 x.f1.f0) := (blk_cell Z0.out 1).trans rfl; have b2 : w1.cell? ⟨w.heap.size, 2, none⟩ = some (.int .i64 x.f1.f1) := (blk_cell Z0.out 2).trans rfl; have b3 : w1.cell? ⟨w.heap.size, 3, none⟩ = some (.string x.f1.f2) := (blk_cell Z0.out 3).trans rfl)
  refine bodyPost_ret (results_ct rfl _ _ (w.heap.size + 1) 31 #[.int .i64 (redoM m).2.1.f0, .int .i64 (redoM m).2.1.f1, .string (redoM m).2.1.f2] (0, 0) _ rfl (blk_put (blk_put (blk_put Z1.out 0 _ rfl) 1 _ rfl) 2 _ rfl) Try.underlying31 rfl (by kernel_rfl)) rfl ?_
  exact ⟨rfl, run_end HH.out X4.out (Nat.le_succ _) (blk_lt X1.out) TO.out⟩

set_option maxRecDepth 100000 in
set_option maxHeartbeats 3200000 in
theorem run_do_ok {base g n : Nat} {F : Nat → Prop} {s0 : ByteArray} {m : M} {w : World} (x : S36) (h : HistM base w g F m) (hg : Good s0 m) (hs : Small n m) (hn : n ≤ 100000) (hx0 : 0 ≤ x.f0) (hx1 : x.f0 ≤ 255) (hxz : x.f1.f2.size ≤ 1099511627776)
    (hk : x.f0 % 3 ≠ 1) (hk' : x.f0 % 3 ≠ 2) (he : (doM m x.f1).2 = 0) :
    Calls Try.prog 21 #[.pointer (some ⟨g, 0, none⟩), .agg #[.int .u8 x.f0, .int .i64 x.f1.f0, .int .i64 x.f1.f1, .string x.f1.f2]] w fun r w' => r = .returned (.tuple #[.agg #[.int .i64 x.f1.f0, .int .i64 x.f1.f1, .string x.f1.f2], .int .i64 0]) ∧ ToM base g F (doM m x.f1).1 w w' := by
  have HH := Aside0.mk h
  have HG := Aside0.mk hg
  have HS := Aside0.mk hs
  have hk1 : ((x.f0 % 3 : Int) == 1) = false := beq_eq_false_iff_ne.2 hk
  have hk2 : ((x.f0 % 3 : Int) == 2) = false := beq_eq_false_iff_ne.2 hk'
  have he2 : ((doM m x.f1).2 != 0) = false := by rw [he]; rfl
  clear hk hk' he
  clear h hg hs
  go_enter Try.func21, Try.ntmps21
  go_wp2_with fail
  have hx0' : ((w.alloc (.cells #[.int .u8 x.f0, .int .i64 x.f1.f0, .int .i64 x.f1.f1, .string x.f1.f2] 36)).alloc (.cells #[.int .i64 0, .int .i64 0, .string ⟨#[]⟩] 31)).heap[w.heap.size]? = some (.cells #[.int .u8 x.f0, .int .i64 x.f1.f0, .int .i64 x.f1.f1, .string x.f1.f2] 36 (0, 0)) := blk_alloc (by simpa using heap_alloc_new w _) _
  have hx1' : ((w.alloc (.cells #[.int .u8 x.f0, .int .i64 x.f1.f0, .int .i64 x.f1.f1, .string x.f1.f2] 36)).alloc (.cells #[.int .i64 0, .int .i64 0, .string ⟨#[]⟩] 31)).heap[w.heap.size + 1]? = some (.cells #[.int .i64 0, .int .i64 0, .string ⟨#[]⟩] 31 (0, 0)) := by simpa using heap_alloc_new (w.alloc _) _
  have hx4 : Below w.heap.size w ((w.alloc (.cells #[.int .u8 x.f0, .int .i64 x.f1.f0, .int .i64 x.f1.f1, .string x.f1.f2] 36)).alloc (.cells #[.int .i64 0, .int .i64 0, .string ⟨#[]⟩] 31)) := ((Below.refl _ _).alloc (Nat.le_refl _) _).alloc (by simp) _
  generalize (w.alloc (.cells #[.int .u8 x.f0, .int .i64 x.f1.f0, .int .i64 x.f1.f1, .string x.f1.f2] 36)).alloc (.cells #[.int .i64 0, .int .i64 0, .string ⟨#[]⟩] 31) = W at hx0' hx1' hx4 ⊢
  have X0 := Aside0.mk hx0'
  have X1 := Aside0.mk hx1'
  have X4 := Aside0.mk hx4
  have XH : Aside0 (HistM base W g F m) := ⟨HH.out.below X4.out⟩
  clear hx0' hx1' hx4
  go_wp2_with (go_at_call 28; (with_reducible refine (do_call (n := n) (F := F) (m := m) (w := W) x.f1 XH.out HS.out hn hxz).mono ?_); rintro r w1 ⟨rfl, hto⟩; have TO := Aside0.mk hto; have Z0 := Aside0.mk (run_cell HH.out X0.out (Nat.le_refl _) hto); have Z1 := Aside0.mk (run_cell HH.out X1.out (Nat.le_succ _) hto); clear hto; have z0 : w1.cell? ⟨w.heap.size + 1, 0, none⟩ = some (.int .i64 0) := (blk_cell Z1.out 0).trans rfl; have z1 : w1.cell? ⟨w.heap.size + 1, 1, none⟩ = some (.int .i64 0) := (blk_cell Z1.out 1).trans rfl; have z2 : w1.cell? ⟨w.heap.size + 1, 2, none⟩ = some (.string ⟨#[]⟩) := (blk_cell Z1.out 2).trans rfl; have y0 := blk_frozen Z1.out 0; have y1 := blk_frozen Z1.out 1; have y2 := blk_frozen Z1.out 2; have b1 : w1.cell? ⟨w.heap.size, 1, none⟩ = some (.int .i64 x.f1.f0) := (blk_cell Z0.out 1).trans rfl; have b2 : w1.cell? ⟨w.heap.size, 2, none⟩ = some (.int .i64 x.f1.f1) := (blk_cell Z0.out 2).trans rfl; have b3 : w1.cell? ⟨w.heap.size, 3, none⟩ = some (.string x.f1.f2) := (blk_cell Z0.out 3).trans rfl)
  refine bodyPost_ret (results_ct rfl _ _ (w.heap.size + 1) 31 #[.int .i64 x.f1.f0, .int .i64 x.f1.f1, .string x.f1.f2] (0, 0) _ rfl (blk_put (blk_put (blk_put Z1.out 0 _ rfl) 1 _ rfl) 2 _ rfl) Try.underlying31 rfl (by kernel_rfl)) rfl ?_
  exact ⟨rfl, run_end HH.out X4.out (Nat.le_succ _) (blk_lt X1.out) TO.out⟩

set_option maxRecDepth 100000 in
set_option maxHeartbeats 3200000 in
theorem run_do_err {base g n : Nat} {F : Nat → Prop} {s0 : ByteArray} {m : M} {w : World} (x : S36) (h : HistM base w g F m) (hg : Good s0 m) (hs : Small n m) (hn : n ≤ 100000) (hx0 : 0 ≤ x.f0) (hx1 : x.f0 ≤ 255) (hxz : x.f1.f2.size ≤ 1099511627776)
    (hk : x.f0 % 3 ≠ 1) (hk' : x.f0 % 3 ≠ 2) (he : (doM m x.f1).2 ≠ 0) :
    Calls Try.prog 21 #[.pointer (some ⟨g, 0, none⟩), .agg #[.int .u8 x.f0, .int .i64 x.f1.f0, .int .i64 x.f1.f1, .string x.f1.f2]] w fun r w' => r = .returned (.tuple #[.agg #[.int .i64 0, .int .i64 0, .string ⟨#[]⟩], .int .i64 (doM m x.f1).2]) ∧ ToM base g F m w w' := by
  have HH := Aside0.mk h
  have HG := Aside0.mk hg
  have HS := Aside0.mk hs
  have hk1 : ((x.f0 % 3 : Int) == 1) = false := beq_eq_false_iff_ne.2 hk
  have hk2 : ((x.f0 % 3 : Int) == 2) = false := beq_eq_false_iff_ne.2 hk'
  have he2 : ((doM m x.f1).2 != 0) = true := bne_iff_ne.2 he
  have HE := Aside0.mk (do_err_same he)
  clear hk hk' he
  clear h hg hs
  go_enter Try.func21, Try.ntmps21
  go_wp2_with fail
  have hx0' : ((w.alloc (.cells #[.int .u8 x.f0, .int .i64 x.f1.f0, .int .i64 x.f1.f1, .string x.f1.f2] 36)).alloc (.cells #[.int .i64 0, .int .i64 0, .string ⟨#[]⟩] 31)).heap[w.heap.size]? = some (.cells #[.int .u8 x.f0, .int .i64 x.f1.f0, .int .i64 x.f1.f1, .string x.f1.f2] 36 (0, 0)) := blk_alloc (by simpa using heap_alloc_new w _) _
  have hx1' : ((w.alloc (.cells #[.int .u8 x.f0, .int .i64 x.f1.f0, .int .i64 x.f1.f1, .string x.f1.f2] 36)).alloc (.cells #[.int .i64 0, .int .i64 0, .string ⟨#[]⟩] 31)).heap[w.heap.size + 1]? = some (.cells #[.int .i64 0, .int .i64 0, .string ⟨#[]⟩] 31 (0, 0)) := by simpa using heap_alloc_new (w.alloc _) _
  have hx4 : Below w.heap.size w ((w.alloc (.cells #[.int .u8 x.f0, .int .i64 x.f1.f0, .int .i64 x.f1.f1, .string x.f1.f2] 36)).alloc (.cells #[.int .i64 0, .int .i64 0, .string ⟨#[]⟩] 31)) := ((Below.refl _ _).alloc (Nat.le_refl _) _).alloc (by simp) _
  generalize (w.alloc (.cells #[.int .u8 x.f0, .int .i64 x.f1.f0, .int .i64 x.f1.f1, .string x.f1.f2] 36)).alloc (.cells #[.int .i64 0, .int .i64 0, .string ⟨#[]⟩] 31) = W at hx0' hx1' hx4 ⊢
  have X0 := Aside0.mk hx0'
  have X1 := Aside0.mk hx1'
  have X4 := Aside0.mk hx4
  have XH : Aside0 (HistM base W g F m) := ⟨HH.out.below X4.out⟩
  clear hx0' hx1' hx4
  go_wp2_with (go_at_call 28; (with_reducible refine (do_call (n := n) (F := F) (m := m) (w := W) x.f1 XH.out HS.out hn hxz).mono ?_); rintro r w1 ⟨rfl, hto⟩; have TO := Aside0.mk hto; have Z0 := Aside0.mk (run_cell HH.out X0.out (Nat.le_refl _) hto); have Z1 := Aside0.mk (run_cell HH.out X1.out (Nat.le_succ _) hto); clear hto; have z0 : w1.cell? ⟨w.heap.size + 1, 0, none⟩ = some (.int .i64 0) := (blk_cell Z1.out 0).trans rfl; have z1 : w1.cell? ⟨w.heap.size + 1, 1, none⟩ = some (.int .i64 0) := (blk_cell Z1.out 1).trans rfl; have z2 : w1.cell? ⟨w.heap.size + 1, 2, none⟩ = some (.string ⟨#[]⟩) := (blk_cell Z1.out 2).trans rfl; have y0 := blk_frozen Z1.out 0; have y1 := blk_frozen Z1.out 1; have y2 := blk_frozen Z1.out 2; have b1 : w1.cell? ⟨w.heap.size, 1, none⟩ = some (.int .i64 x.f1.f0) := (blk_cell Z0.out 1).trans rfl; have b2 : w1.cell? ⟨w.heap.size, 2, none⟩ = some (.int .i64 x.f1.f1) := (blk_cell Z0.out 2).trans rfl; have b3 : w1.cell? ⟨w.heap.size, 3, none⟩ = some (.string x.f1.f2) := (blk_cell Z0.out 3).trans rfl)
  refine bodyPost_ret (results_ct rfl _ _ (w.heap.size + 1) 31 #[.int .i64 0, .int .i64 0, .string ⟨#[]⟩] (0, 0) _ rfl (blk_put (blk_put (blk_put Z1.out 0 _ rfl) 1 _ rfl) 2 _ rfl) Try.underlying31 rfl (by kernel_rfl)) rfl ?_
  exact ⟨rfl, by rw [HE.out] at TO; exact run_end HH.out X4.out (Nat.le_succ _) (blk_lt X1.out) TO.out⟩

theorem stepM_undo {m : M} {x : S36} (h : x.f0 % 3 = 1) : stepM m x = undoM m := by unfold stepM; rw [if_pos h]
theorem stepM_redo {m : M} {x : S36} (h : x.f0 % 3 ≠ 1) (h2 : x.f0 % 3 = 2) : stepM m x = redoM m := by unfold stepM; rw [if_neg h, if_pos h2]
theorem stepM_do {m : M} {x : S36} (h : x.f0 % 3 ≠ 1) (h2 : x.f0 % 3 ≠ 2) (h3 : (doM m x.f1).2 = 0) : stepM m x = ((doM m x.f1).1, x.f1, 0) := by unfold stepM; rw [if_neg h, if_neg h2, if_pos h3]
theorem stepM_err {m : M} {x : S36} (h : x.f0 % 3 ≠ 1) (h2 : x.f0 % 3 ≠ 2) (h3 : (doM m x.f1).2 ≠ 0) : stepM m x = (m, z31, (doM m x.f1).2) := by unfold stepM; rw [if_neg h, if_neg h2, if_neg h3]
/-- One call: the machine's step. -/
theorem run_any {base g n : Nat} {F : Nat → Prop} {s0 : ByteArray} {m : M} {w : World} (x : S36) (h : HistM base w g F m) (hg : Good s0 m) (hs : Small n m) (hn : n ≤ 100000) (hx0 : 0 ≤ x.f0) (hx1 : x.f0 ≤ 255) (hxz : x.f1.f2.size ≤ 1099511627776) :
    Calls Try.prog 21 #[.pointer (some ⟨g, 0, none⟩), .agg #[.int .u8 x.f0, .int .i64 x.f1.f0, .int .i64 x.f1.f1, .string x.f1.f2]] w fun r w' =>
      r = .returned (.tuple #[.agg #[.int .i64 (stepM m x).2.1.f0, .int .i64 (stepM m x).2.1.f1, .string (stepM m x).2.1.f2], .int .i64 (stepM m x).2.2]) ∧ ToM base g F (stepM m x).1 w w' := by
  by_cases h1 : x.f0 % 3 = 1
  · rw [stepM_undo h1]; exact run_undo x h hg hs hn hx0 hx1 hxz h1
  · by_cases h2 : x.f0 % 3 = 2
    · rw [stepM_redo h1 h2]; exact run_redo x h hg hs hn hx0 hx1 hxz h2
    · by_cases h3 : (doM m x.f1).2 = 0
      · rw [stepM_do h1 h2 h3]; exact run_do_ok x h hg hs hn hx0 hx1 hxz h1 h2 h3
      · rw [stepM_err h1 h2 h3]; exact run_do_err x h hg hs hn hx0 hx1 hxz h1 h2 h3
end Go.Proofs.Ytnmgcghbfnpofaa.Hist
