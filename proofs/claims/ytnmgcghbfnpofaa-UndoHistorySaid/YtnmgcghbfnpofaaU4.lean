/- Undo and Redo: the next edit of one stack is applied, its inverse is pushed to the other one. Written by a program of this session (gen_move.py). -/
import Derived.Test.YtnmgcghbfnpofaaU3
namespace Go.Proofs.Ytnmgcghbfnpofaa.Hist
open Go.RowKit Go.Proofs.Ytnmgcghbfnpofaa.PAll Go.Proofs.YtnmgcghbfnpofaaW.PrintWords Go.Proofs.Ytnmgcghbfnpofaa.Open Go.Proofs.Ytnmgcghbfnpofaa.Plain
set_option linter.unusedVariables false

theorem mv_far {w1 w2 : World} {g b : Nat} {o : Obj} (hb : w1.heap[b]? = some o) (h : Did w1 w2 (fun k => k = g)) (hn : b ≠ g) : w2.heap[b]? = some o := (h.block (blk_lt hb) hn).trans hb
theorem mv_far2 {w2 w3 : World} {g b : Nat} {o : Obj} {v : Value} (hb : w2.heap[b]? = some o) (h : Did w2 w3 (fun k => k = g ∨ v.ownBlock = some k)) (hn : b ≠ g) (hv : v.ownBlock ≠ some b) : w3.heap[b]? = some o := (h.block (blk_lt hb) (fun h => h.elim hn hv)).trans hb
theorem mv_own {base g : Nat} {w W w1 w2 : World} {v : Value} {xs : List S31} {cs : Array Value} {o : Obj} (h : w.ownsRow base 31 3 v xs.length (cel xs)) (hb : w.heap[g]? = some (.cells cs 66 (0, 0)))
    (hB : Below w.heap.size w W) (h1 : Did W w1 (fun k => k = g)) (h2 : Did (w1.alloc o) w2 (fun k => k = g)) : w2.ownsRow base 31 3 v xs.length (cel xs) := by
  have hne := own_ne66 h hb
  refine own_move h (fun k hk => ?_)
  have hlt := own_lt h k hk
  have hk' : k ≠ g := fun e => hne (by rw [hk, e])
  have s1 := hB.size
  have s2 := h1.size
  rw [h2.block (by simp; omega) hk', Below.heap_alloc w1 o k (by omega), h1.block (by omega) hk']
  exact hB.block k hlt
theorem mv_base {base g : Nat} {F : Nat → Prop} {w W w1 w2 : World} {o : Obj} (h7 : ∀ k, F k → base ≤ k ∧ k < w.heap.size) (h4 : F g) (hB : Below w.heap.size w W) (h1 : Did W w1 (fun k => k = g)) (h2 : Did (w1.alloc o) w2 (fun k => k = g)) : base ≤ w2.heap.size := by
  have := h7 g h4
  have s1 := hB.size
  have s2 := h1.size
  have s3 := h2.size
  simp at s3
  omega
/-- All that the move has turned. -/
theorem mv_did {base g : Nat} {F : Nat → Prop} {w W w1 w2 w3 : World} {vo : Value} {o : Obj} (h4 : F g) (h6 : ∀ k, vo.ownBlock = some k → F k) (hB : Below w.heap.size w W) (h1 : Did W w1 (fun k => k = g)) (h2 : Did (w1.alloc o) w2 (fun k => k = g))
    (h3 : Did w2 w3 (fun k => k = g ∨ vo.ownBlock = some k)) (a b c : Value) : Did w (((w3.setCell ⟨w.heap.size, 0, none⟩ a).setCell ⟨w.heap.size, 1, none⟩ b).setCell ⟨w.heap.size, 2, none⟩ c) F ∧ w.heap.size ≤ w2.heap.size := by
  have d0 : Did w W F := Did.of_below hB F
  have d1 : Did w w1 F := d0.then_ h1 (fun k hk => by subst hk; exact .inl h4)
  have d2 : Did w w2 F := (d1.alloc o).then_ h2 (fun k hk => by subst hk; exact .inl h4)
  have d3 : Did w w3 F := d2.then_ h3 (fun k hk => hk.elim (fun h => by subst h; exact .inl h4) (fun h => .inl (h6 k h)))
  exact ⟨((d3.setCell (p := ⟨w.heap.size, 0, none⟩) (.inr (Nat.le_refl _)) a).setCell (p := ⟨w.heap.size, 1, none⟩) (.inr (Nat.le_refl _)) b).setCell (p := ⟨w.heap.size, 2, none⟩) (.inr (Nat.le_refl _)) c, d2.size⟩
/-- A block of the history's, or a new one, behind the last three stores. -/
theorem mv_last {w w3 : World} {k : Nat} (hn : k ≠ w.heap.size) (a b c : Value) : (((w3.setCell ⟨w.heap.size, 0, none⟩ a).setCell ⟨w.heap.size, 1, none⟩ b).setCell ⟨w.heap.size, 2, none⟩ c).heap[k]? = w3.heap[k]? :=
  (Below.heap_setCell _ ⟨w.heap.size, 2, none⟩ _ k hn).trans ((Below.heap_setCell _ ⟨w.heap.size, 1, none⟩ _ k hn).trans (Below.heap_setCell _ ⟨w.heap.size, 0, none⟩ _ k hn))
theorem mv_size {w3 : World} (n : Nat) (a b c : Value) : (((w3.setCell ⟨n, 0, none⟩ a).setCell ⟨n, 1, none⟩ b).setCell ⟨n, 2, none⟩ c).heap.size = w3.heap.size := by simp [World.setCell]

theorem mv_end_undo {base g : Nat} {F : Nat → Prop} {t : ByteArray} {ver : Int} {rs ys : List S31} {x y : S31} {w W w1 w2 w3 : World} {A : Option Addr} {c : Nat} {vr v' : Value} {o : Obj} {a b d : Value} {cs : Array Value}
    (HB : w.heap[g]? = some (.cells cs 66 (0, 0))) (H1 : w.ownsRow base 31 3 (.slice A (ys.length + 1) c) (ys.length + 1) (cel (ys ++ [x]))) (H3 : ∀ k, (Value.slice A (ys.length + 1) c).ownBlock = some k → vr.ownBlock ≠ some k)
    (H4 : F g) (H5 : ∀ k, (Value.slice A (ys.length + 1) c).ownBlock = some k → F k) (H6 : ∀ k, vr.ownBlock = some k → F k) (H7 : ∀ k, F k → base ≤ k ∧ k < w.heap.size)
    (X4 : Below w.heap.size w W) (P2 : w1.ownsRow base 31 3 (.slice A ys.length c) ys.length (cel ys)) (P3 : Did W w1 (fun k => k = g)) (S2 : Did (w1.alloc o) w2 (fun k => k = g))
    (Q1 : w3.heap[g]? = some (.cells #[.string t, .int .i64 ver, .slice A ys.length c, v'] 66 (0, 0))) (Q2 : w3.ownsRow base 31 3 v' (rs.length + 1) (cel (rs ++ [y]))) (Q3 : ∀ k, v'.ownBlock = some k → vr.ownBlock = some k ∨ w2.heap.size ≤ k)
    (Q4 : Did w2 w3 (fun k => k = g ∨ vr.ownBlock = some k)) (hbig : w.heap.size < w2.heap.size) :
    To base g F t ver ys (rs ++ [y]) w (((w3.setCell ⟨w.heap.size, 0, none⟩ a).setCell ⟨w.heap.size, 1, none⟩ b).setCell ⟨w.heap.size, 2, none⟩ d) := by
  obtain ⟨D, hs2⟩ := mv_did (base := base) H4 H6 X4 P3 S2 Q4 a b d
  have hA : (Value.slice A ys.length c).ownBlock = (Value.slice A (ys.length + 1) c).ownBlock := by cases A <;> rfl
  have hlast : ∀ k, k ≠ w.heap.size → (((w3.setCell ⟨w.heap.size, 0, none⟩ a).setCell ⟨w.heap.size, 1, none⟩ b).setCell ⟨w.heap.size, 2, none⟩ d).heap[k]? = w3.heap[k]? := fun k hn => mv_last hn a b d
  have hsz := mv_size (w3 := w3) w.heap.size a b d
  have s1 := X4.size
  have s2 := P3.size
  have s3 := S2.size
  have s4 := Q4.size
  simp only [World.size_alloc] at s3
  have lg : g < w.heap.size := (H7 g H4).2
  have hgs : base ≤ g := (H7 g H4).1
  have hne : ∀ k, (Value.slice A ys.length c).ownBlock = some k → vr.ownBlock ≠ some k := by
    intro k hk hv
    rw [hA] at hk
    exact H3 k hk hv
  have hkg : ∀ k, (Value.slice A ys.length c).ownBlock = some k → k ≠ g := by
    rintro k hk rfl
    rw [hA] at hk
    exact own_ne66 H1 HB hk.symm
  have hltA : ∀ k, (Value.slice A ys.length c).ownBlock = some k → base ≤ k ∧ k < w.heap.size := fun k hk => H7 k (H5 k (by rw [← hA]; exact hk))
  have hP : w3.ownsRow base 31 3 (.slice A ys.length c) ys.length (cel ys) := by
    refine own_move P2 (fun k hk => ?_)
    have hkF := hltA k hk
    rw [Q4.block (by omega) (fun h => h.elim (hkg k hk) (fun h => hne k hk h)), S2.block (by simp; omega) (hkg k hk), Below.heap_alloc w1 o k (by omega)]
  have hv' : ∀ k, v'.ownBlock = some k → F k ∨ w2.heap.size ≤ k := fun k hk => (Q3 k hk).elim (fun h => .inl (H6 k h)) .inr
  have hvn : ∀ k, v'.ownBlock = some k → k ≠ w.heap.size := fun k hk => by
    rcases hv' k hk with h | h
    · have := (H7 k h).2; omega
    · omega
  have o1 := own_move (w1 := ((w3.setCell ⟨w.heap.size, 0, none⟩ a).setCell ⟨w.heap.size, 1, none⟩ b).setCell ⟨w.heap.size, 2, none⟩ d) hP (fun k hk => hlast k (by have := (hltA k hk).2; omega))
  have o2 := own_move (w1 := ((w3.setCell ⟨w.heap.size, 0, none⟩ a).setCell ⟨w.heap.size, 1, none⟩ b).setCell ⟨w.heap.size, 2, none⟩ d) Q2 (fun k hk => hlast k (hvn k hk))
  rw [show rs.length + 1 = (rs ++ [y]).length from by simp] at o2
  have hap : ∀ k, (Value.slice A ys.length c).ownBlock = some k → v'.ownBlock ≠ some k := fun k hk hv => by
    rcases Q3 k hv with h | h
    · exact hne k hk h
    · have := (hltA k hk).2; omega
  refine ⟨fun k => k = g ∨ (Value.slice A ys.length c).ownBlock = some k ∨ v'.ownBlock = some k, ⟨_, _, (hlast g (by omega)).trans Q1, o1, o2, hap, .inl rfl, fun k hk => .inr (.inl hk), fun k hk => .inr (.inr hk), ?_⟩, ?_, D⟩
  · rintro k (rfl | hk | hk)
    · rw [hsz]; exact ⟨hgs, by omega⟩
    · rw [hsz]; have := hltA k hk; exact ⟨this.1, by omega⟩
    · rw [hsz]; exact ⟨own_base Q2 k hk, own_lt Q2 k hk⟩
  · rintro k (rfl | hk | hk)
    · exact .inl H4
    · exact .inl (H5 k (by rw [← hA]; exact hk))
    · rcases hv' k hk with h | h
      · exact .inl h
      · right; omega

theorem mv_end_redo {base g : Nat} {F : Nat → Prop} {t : ByteArray} {ver : Int} {us ys : List S31} {x y : S31} {w W w1 w2 w3 : World} {A : Option Addr} {c : Nat} {vu v' : Value} {o : Obj} {a b d : Value} {cs : Array Value}
    (HB : w.heap[g]? = some (.cells cs 66 (0, 0))) (H1 : w.ownsRow base 31 3 (.slice A (ys.length + 1) c) (ys.length + 1) (cel (ys ++ [x]))) (H3 : ∀ k, vu.ownBlock = some k → (Value.slice A (ys.length + 1) c).ownBlock ≠ some k)
    (H4 : F g) (H5 : ∀ k, (Value.slice A (ys.length + 1) c).ownBlock = some k → F k) (H6 : ∀ k, vu.ownBlock = some k → F k) (H7 : ∀ k, F k → base ≤ k ∧ k < w.heap.size)
    (X4 : Below w.heap.size w W) (P2 : w1.ownsRow base 31 3 (.slice A ys.length c) ys.length (cel ys)) (P3 : Did W w1 (fun k => k = g)) (S2 : Did (w1.alloc o) w2 (fun k => k = g))
    (Q1 : w3.heap[g]? = some (.cells #[.string t, .int .i64 ver, v', .slice A ys.length c] 66 (0, 0))) (Q2 : w3.ownsRow base 31 3 v' (us.length + 1) (cel (us ++ [y]))) (Q3 : ∀ k, v'.ownBlock = some k → vu.ownBlock = some k ∨ w2.heap.size ≤ k)
    (Q4 : Did w2 w3 (fun k => k = g ∨ vu.ownBlock = some k)) (hbig : w.heap.size < w2.heap.size) :
    To base g F t ver (us ++ [y]) ys w (((w3.setCell ⟨w.heap.size, 0, none⟩ a).setCell ⟨w.heap.size, 1, none⟩ b).setCell ⟨w.heap.size, 2, none⟩ d) := by
  obtain ⟨D, hs2⟩ := mv_did (base := base) H4 H6 X4 P3 S2 Q4 a b d
  have hA : (Value.slice A ys.length c).ownBlock = (Value.slice A (ys.length + 1) c).ownBlock := by cases A <;> rfl
  have hlast : ∀ k, k ≠ w.heap.size → (((w3.setCell ⟨w.heap.size, 0, none⟩ a).setCell ⟨w.heap.size, 1, none⟩ b).setCell ⟨w.heap.size, 2, none⟩ d).heap[k]? = w3.heap[k]? := fun k hn => mv_last hn a b d
  have hsz := mv_size (w3 := w3) w.heap.size a b d
  have s1 := X4.size
  have s2 := P3.size
  have s3 := S2.size
  have s4 := Q4.size
  simp only [World.size_alloc] at s3
  have lg : g < w.heap.size := (H7 g H4).2
  have hgs : base ≤ g := (H7 g H4).1
  have hne : ∀ k, (Value.slice A ys.length c).ownBlock = some k → vu.ownBlock ≠ some k := by
    intro k hk hv
    rw [hA] at hk
    exact H3 k hv hk
  have hkg : ∀ k, (Value.slice A ys.length c).ownBlock = some k → k ≠ g := by
    rintro k hk rfl
    rw [hA] at hk
    exact own_ne66 H1 HB hk.symm
  have hltA : ∀ k, (Value.slice A ys.length c).ownBlock = some k → base ≤ k ∧ k < w.heap.size := fun k hk => H7 k (H5 k (by rw [← hA]; exact hk))
  have hP : w3.ownsRow base 31 3 (.slice A ys.length c) ys.length (cel ys) := by
    refine own_move P2 (fun k hk => ?_)
    have hkF := hltA k hk
    rw [Q4.block (by omega) (fun h => h.elim (hkg k hk) (fun h => hne k hk h)), S2.block (by simp; omega) (hkg k hk), Below.heap_alloc w1 o k (by omega)]
  have hv' : ∀ k, v'.ownBlock = some k → F k ∨ w2.heap.size ≤ k := fun k hk => (Q3 k hk).elim (fun h => .inl (H6 k h)) .inr
  have hvn : ∀ k, v'.ownBlock = some k → k ≠ w.heap.size := fun k hk => by
    rcases hv' k hk with h | h
    · have := (H7 k h).2; omega
    · omega
  have o1 := own_move (w1 := ((w3.setCell ⟨w.heap.size, 0, none⟩ a).setCell ⟨w.heap.size, 1, none⟩ b).setCell ⟨w.heap.size, 2, none⟩ d) hP (fun k hk => hlast k (by have := (hltA k hk).2; omega))
  have o2 := own_move (w1 := ((w3.setCell ⟨w.heap.size, 0, none⟩ a).setCell ⟨w.heap.size, 1, none⟩ b).setCell ⟨w.heap.size, 2, none⟩ d) Q2 (fun k hk => hlast k (hvn k hk))
  rw [show us.length + 1 = (us ++ [y]).length from by simp] at o2
  have hap : ∀ k, (Value.slice A ys.length c).ownBlock = some k → v'.ownBlock ≠ some k := fun k hk hv => by
    rcases Q3 k hv with h | h
    · exact hne k hk h
    · have := (hltA k hk).2; omega
  refine ⟨fun k => k = g ∨ (Value.slice A ys.length c).ownBlock = some k ∨ v'.ownBlock = some k, ⟨_, _, (hlast g (by omega)).trans Q1, o2, o1, fun k hk h => hap k h hk, .inl rfl, fun k hk => .inr (.inr hk), fun k hk => .inr (.inl hk), ?_⟩, ?_, D⟩
  · rintro k (rfl | hk | hk)
    · rw [hsz]; exact ⟨hgs, by omega⟩
    · rw [hsz]; have := hltA k hk; exact ⟨this.1, by omega⟩
    · rw [hsz]; exact ⟨own_base Q2 k hk, own_lt Q2 k hk⟩
  · rintro k (rfl | hk | hk)
    · exact .inl H4
    · exact .inl (H5 k (by rw [← hA]; exact hk))
    · rcases hv' k hk with h | h
      · exact .inl h
      · right; omega

set_option maxRecDepth 100000 in
set_option maxHeartbeats 3200000 in
theorem undo_none (base g : Nat) (F : Nat → Prop) (t : ByteArray) (ver : Int) (us rs : List S31) (w : World) (h : Hist base w g F t ver us rs) (he : us = []) :
    Calls Try.prog 50 #[.pointer (some ⟨g, 0, none⟩), .pointer (some ⟨g, 2, none⟩), .pointer (some ⟨g, 3, none⟩)] w fun r w' => r = .returned (.tuple #[.agg #[.int .i64 0, .int .i64 0, .string ⟨#[]⟩], .int .i64 15]) ∧ Below w.heap.size w w' := by
  subst he
  obtain ⟨vu, vr, hb, h1, h2, h3, h4, h5, h6, h7⟩ := h
  obtain ⟨A, c, rfl, _, _⟩ := own_slice h1
  have HB := Aside0.mk hb
  clear hb h1 h2 h3 h4 h5 h6 h7
  go_enter Try.func50, Try.ntmps50
  go_wp2_with fail
  have hx0 : (w.alloc (.cells #[.int .i64 0, .int .i64 0, .string ⟨#[]⟩] 31)).heap[w.heap.size]? = some (.cells #[.int .i64 0, .int .i64 0, .string ⟨#[]⟩] 31 (0, 0)) := by simpa using heap_alloc_new w _
  have hx4 : Below w.heap.size w (w.alloc (.cells #[.int .i64 0, .int .i64 0, .string ⟨#[]⟩] 31)) := (Below.refl _ _).alloc (Nat.le_refl _) _
  have hx2 := blk_alloc HB.out (.cells #[.int .i64 0, .int .i64 0, .string ⟨#[]⟩] 31)
  generalize w.alloc (.cells #[.int .i64 0, .int .i64 0, .string ⟨#[]⟩] 31) = W at hx0 hx2 hx4 ⊢
  have X0 := Aside0.mk hx0
  have X2 := Aside0.mk hx2
  have X4 := Aside0.mk hx4
  clear hx0 hx2 hx4
  go_wp2_with (go_at_call 57; (with_reducible refine (pop_none g 2 _ A c W X2.out rfl).mono ?_); rintro r w1 ⟨rfl, hbel⟩; have Z0 := Aside0.mk (blk_below X0.out hbel); have ZB := Aside0.mk (X4.out.trans (hbel.mono X4.out.size)); clear hbel; have z0 : w1.cell? ⟨w.heap.size, 0, none⟩ = some (.int .i64 0) := (blk_cell Z0.out 0).trans rfl; have z1 : w1.cell? ⟨w.heap.size, 1, none⟩ = some (.int .i64 0) := (blk_cell Z0.out 1).trans rfl; have z2 : w1.cell? ⟨w.heap.size, 2, none⟩ = some (.string ⟨#[]⟩) := (blk_cell Z0.out 2).trans rfl; have y0 := blk_frozen Z0.out 0; have y1 := blk_frozen Z0.out 1; have y2 := blk_frozen Z0.out 2; have n0 : w.heap.size < w1.heap.size := blk_lt Z0.out; have n1 : w.heap.size ≠ w1.heap.size := Nat.ne_of_lt n0; have n2 : w1.heap.size ≠ w.heap.size := Nat.ne_of_gt n0)
  refine bodyPost_ret (results_ct rfl _ _ w.heap.size 31 #[.int .i64 0, .int .i64 0, .string ⟨#[]⟩] (0, 0) _ rfl ?_ Try.underlying31 rfl (by kernel_rfl)) rfl ?_
  · first
      | exact blk_put (blk_put (blk_put (blk_alloc Z0.out _) 0 _ rfl) 1 _ rfl) 2 _ rfl
      | exact blk_alloc (blk_put (blk_put (blk_put Z0.out 0 _ rfl) 1 _ rfl) 2 _ rfl) _
  · refine ⟨rfl, ?_⟩
    first
      | exact (((ZB.out.alloc ZB.out.size _).setCell (p := ⟨w.heap.size, 0, none⟩) (Nat.le_refl _) _).setCell (p := ⟨w.heap.size, 1, none⟩) (Nat.le_refl _) _).setCell (p := ⟨w.heap.size, 2, none⟩) (Nat.le_refl _) _
      | exact (((ZB.out.setCell (p := ⟨w.heap.size, 0, none⟩) (Nat.le_refl _) _).setCell (p := ⟨w.heap.size, 1, none⟩) (Nat.le_refl _) _).setCell (p := ⟨w.heap.size, 2, none⟩) (Nat.le_refl _) _).alloc (by simpa [World.setCell] using ZB.out.size) _

set_option maxRecDepth 100000 in
set_option maxHeartbeats 3200000 in
theorem undo_some (base g : Nat) (F : Nat → Prop) (t : ByteArray) (ver : Int) (rs ys : List S31) (x : S31) (w : World) (h : Hist base w g F t ver (ys ++ [x]) rs)
    (hf : fits t.size x) (ht : t.size ≤ 1099511627776) (hx : x.f2.size ≤ 1099511627776) (hv0 : 0 ≤ ver) (hv1 : ver ≤ 1000000) (hl : ys.length ≤ 1000000) (hl2 : rs.length ≤ 1000000) :
    Calls Try.prog 50 #[.pointer (some ⟨g, 0, none⟩), .pointer (some ⟨g, 2, none⟩), .pointer (some ⟨g, 3, none⟩)] w fun r w' => r = .returned (.tuple #[.agg #[.int .i64 x.f0, .int .i64 x.f1, .string x.f2], .int .i64 0]) ∧ To base g F (ap t x) (ver + 1) ys (rs ++ [inv t x]) w w' := by
  obtain ⟨vu, vr, hb, h1, h2, h3, h4, h5, h6, h7⟩ := h
  have hlen : (ys ++ [x]).length = ys.length + 1 := by simp
  rw [hlen] at h1
  obtain ⟨A, c, rfl, _, _⟩ := own_slice h1
  have lg := blk_lt hb
  have HB := Aside0.mk hb
  have HF := Aside0.mk hf
  have H1 := Aside0.mk h1
  have H2 := Aside0.mk h2
  have H3 := Aside0.mk h3
  have H4 := Aside0.mk h4
  have H5 := Aside0.mk h5
  have H6 := Aside0.mk h6
  have H7 := Aside0.mk h7
  clear hb hf h1 h2 h3 h4 h5 h6 h7 hlen
  go_enter Try.func50, Try.ntmps50
  go_wp2_with fail
  have hx0 : (w.alloc (.cells #[.int .i64 0, .int .i64 0, .string ⟨#[]⟩] 31)).heap[w.heap.size]? = some (.cells #[.int .i64 0, .int .i64 0, .string ⟨#[]⟩] 31 (0, 0)) := by simpa using heap_alloc_new w _
  have hx4 : Below w.heap.size w (w.alloc (.cells #[.int .i64 0, .int .i64 0, .string ⟨#[]⟩] 31)) := (Below.refl _ _).alloc (Nat.le_refl _) _
  have hx2 := blk_alloc HB.out (.cells #[.int .i64 0, .int .i64 0, .string ⟨#[]⟩] 31)
  have hx5 : (w.alloc (.cells #[.int .i64 0, .int .i64 0, .string ⟨#[]⟩] 31)).heap.size = w.heap.size + 1 := by simp
  generalize w.alloc (.cells #[.int .i64 0, .int .i64 0, .string ⟨#[]⟩] 31) = W at hx0 hx2 hx4 hx5 ⊢
  have X0 := Aside0.mk hx0
  have X2 := Aside0.mk hx2
  have X4 := Aside0.mk hx4
  have X5 := Aside0.mk hx5
  have X6 := Aside0.mk (own_move H1.out (fun k hk => X4.out.block k (H7.out k (H5.out k hk)).2))
  clear hx0 hx2 hx4 hx5
  go_wp2_with (first
    | (go_at_call 57; (with_reducible refine (pop_some base g 2 _ A c ys x W X2.out rfl X6.out hl).mono ?_); rintro r w1 ⟨rfl, hp1, hp2, hp3⟩; have P1 : Aside0 (w1.heap[g]? = some (.cells #[.string t, .int .i64 ver, .slice A ys.length c, vr] 66 (0, 0))) := ⟨hp1⟩; have P2 := Aside0.mk hp2; have P3 := Aside0.mk hp3; have P0 := Aside0.mk ((hp3.block (blk_lt X0.out) (Nat.ne_of_gt lg)).trans X0.out); clear hp1 hp2 hp3)
    | (go_at_call 49; (with_reducible refine (step_any g t ver _ _ x (w1.alloc _) (blk_alloc P1.out _) HF.out ht hx hv0 hv1).mono ?_); rintro r w2 ⟨rfl, hs1, hs2⟩; have S1 := Aside0.mk hs1; have S2 := Aside0.mk hs2; have S0 := Aside0.mk (mv_far (blk_alloc P0.out _) hs2 (Nat.ne_of_gt lg)); have S8 := Aside0.mk (mv_far (blk_new w1 _) hs2 (Nat.ne_of_gt (Nat.lt_of_lt_of_le lg (Nat.le_trans X4.out.size P3.out.size)))); have S3 : Aside0 (w2.ownsRow base 31 3 vr rs.length (cel rs)) := ⟨mv_own H2.out HB.out X4.out P3.out hs2⟩; clear hs1 hs2)
    | (go_at_call 48; (with_reducible refine (push_any base g 3 _ _ rs (inv t x) w2 S1.out rfl S3.out (mv_base H7.out H4.out X4.out P3.out S2.out) hl2).mono ?_); rintro r w3 ⟨rfl, v', hq1, hq2, hq3, hq4⟩; have Q1 : Aside0 (w3.heap[g]? = some (.cells #[.string (ap t x), .int .i64 (ver + 1), .slice A ys.length c, v'] 66 (0, 0))) := ⟨hq1⟩; have Q2 := Aside0.mk hq2; have Q3 := Aside0.mk hq3; have Q4 := Aside0.mk hq4; have Q0 := Aside0.mk (mv_far2 S0.out hq4 (Nat.ne_of_gt lg) (fun h => Nat.lt_irrefl _ (H7.out _ (H6.out _ h)).2)); have Q8 := Aside0.mk (mv_far2 S8.out hq4 (Nat.ne_of_gt (Nat.lt_of_lt_of_le lg (Nat.le_trans X4.out.size P3.out.size))) (fun h => Nat.lt_irrefl _ (Nat.lt_of_lt_of_le (H7.out _ (H6.out _ h)).2 (Nat.le_trans X4.out.size P3.out.size)))); clear hq1 hq2 hq3 hq4; have z0 : w3.cell? ⟨w.heap.size, 0, none⟩ = some (.int .i64 0) := (blk_cell Q0.out 0).trans rfl; have z1 : w3.cell? ⟨w.heap.size, 1, none⟩ = some (.int .i64 0) := (blk_cell Q0.out 1).trans rfl; have z2 : w3.cell? ⟨w.heap.size, 2, none⟩ = some (.string ⟨#[]⟩) := (blk_cell Q0.out 2).trans rfl; have y0 := blk_frozen Q0.out 0; have y1 := blk_frozen Q0.out 1; have y2 := blk_frozen Q0.out 2; have b0 : w3.cell? ⟨w1.heap.size, 0, none⟩ = some (.int .i64 x.f0) := (blk_cell Q8.out 0).trans rfl; have b1 : w3.cell? ⟨w1.heap.size, 1, none⟩ = some (.int .i64 x.f1) := (blk_cell Q8.out 1).trans rfl; have b2 : w3.cell? ⟨w1.heap.size, 2, none⟩ = some (.string x.f2) := (blk_cell Q8.out 2).trans rfl))
  refine bodyPost_ret (results_ct rfl _ _ w.heap.size 31 #[.int .i64 x.f0, .int .i64 x.f1, .string x.f2] (0, 0) _ rfl (blk_put (blk_put (blk_put Q0.out 0 _ rfl) 1 _ rfl) 2 _ rfl) Try.underlying31 rfl (by kernel_rfl)) rfl ?_
  exact ⟨rfl, mv_end_undo HB.out H1.out H3.out H4.out H5.out H6.out H7.out X4.out P2.out P3.out S2.out Q1.out Q2.out Q3.out Q4.out (Nat.lt_of_lt_of_le (blk_lt P0.out) (Nat.le_trans (Nat.le_of_lt (by simp)) S2.out.size))⟩

set_option maxRecDepth 100000 in
set_option maxHeartbeats 3200000 in
theorem redo_none (base g : Nat) (F : Nat → Prop) (t : ByteArray) (ver : Int) (us rs : List S31) (w : World) (h : Hist base w g F t ver us rs) (he : rs = []) :
    Calls Try.prog 50 #[.pointer (some ⟨g, 0, none⟩), .pointer (some ⟨g, 3, none⟩), .pointer (some ⟨g, 2, none⟩)] w fun r w' => r = .returned (.tuple #[.agg #[.int .i64 0, .int .i64 0, .string ⟨#[]⟩], .int .i64 15]) ∧ Below w.heap.size w w' := by
  subst he
  obtain ⟨vu, vr, hb, h1, h2, h3, h4, h5, h6, h7⟩ := h
  obtain ⟨A, c, rfl, _, _⟩ := own_slice h2
  have HB := Aside0.mk hb
  clear hb h1 h2 h3 h4 h5 h6 h7
  go_enter Try.func50, Try.ntmps50
  go_wp2_with fail
  have hx0 : (w.alloc (.cells #[.int .i64 0, .int .i64 0, .string ⟨#[]⟩] 31)).heap[w.heap.size]? = some (.cells #[.int .i64 0, .int .i64 0, .string ⟨#[]⟩] 31 (0, 0)) := by simpa using heap_alloc_new w _
  have hx4 : Below w.heap.size w (w.alloc (.cells #[.int .i64 0, .int .i64 0, .string ⟨#[]⟩] 31)) := (Below.refl _ _).alloc (Nat.le_refl _) _
  have hx2 := blk_alloc HB.out (.cells #[.int .i64 0, .int .i64 0, .string ⟨#[]⟩] 31)
  generalize w.alloc (.cells #[.int .i64 0, .int .i64 0, .string ⟨#[]⟩] 31) = W at hx0 hx2 hx4 ⊢
  have X0 := Aside0.mk hx0
  have X2 := Aside0.mk hx2
  have X4 := Aside0.mk hx4
  clear hx0 hx2 hx4
  go_wp2_with (go_at_call 57; (with_reducible refine (pop_none g 3 _ A c W X2.out rfl).mono ?_); rintro r w1 ⟨rfl, hbel⟩; have Z0 := Aside0.mk (blk_below X0.out hbel); have ZB := Aside0.mk (X4.out.trans (hbel.mono X4.out.size)); clear hbel; have z0 : w1.cell? ⟨w.heap.size, 0, none⟩ = some (.int .i64 0) := (blk_cell Z0.out 0).trans rfl; have z1 : w1.cell? ⟨w.heap.size, 1, none⟩ = some (.int .i64 0) := (blk_cell Z0.out 1).trans rfl; have z2 : w1.cell? ⟨w.heap.size, 2, none⟩ = some (.string ⟨#[]⟩) := (blk_cell Z0.out 2).trans rfl; have y0 := blk_frozen Z0.out 0; have y1 := blk_frozen Z0.out 1; have y2 := blk_frozen Z0.out 2; have n0 : w.heap.size < w1.heap.size := blk_lt Z0.out; have n1 : w.heap.size ≠ w1.heap.size := Nat.ne_of_lt n0; have n2 : w1.heap.size ≠ w.heap.size := Nat.ne_of_gt n0)
  refine bodyPost_ret (results_ct rfl _ _ w.heap.size 31 #[.int .i64 0, .int .i64 0, .string ⟨#[]⟩] (0, 0) _ rfl ?_ Try.underlying31 rfl (by kernel_rfl)) rfl ?_
  · first
      | exact blk_put (blk_put (blk_put (blk_alloc Z0.out _) 0 _ rfl) 1 _ rfl) 2 _ rfl
      | exact blk_alloc (blk_put (blk_put (blk_put Z0.out 0 _ rfl) 1 _ rfl) 2 _ rfl) _
  · refine ⟨rfl, ?_⟩
    first
      | exact (((ZB.out.alloc ZB.out.size _).setCell (p := ⟨w.heap.size, 0, none⟩) (Nat.le_refl _) _).setCell (p := ⟨w.heap.size, 1, none⟩) (Nat.le_refl _) _).setCell (p := ⟨w.heap.size, 2, none⟩) (Nat.le_refl _) _
      | exact (((ZB.out.setCell (p := ⟨w.heap.size, 0, none⟩) (Nat.le_refl _) _).setCell (p := ⟨w.heap.size, 1, none⟩) (Nat.le_refl _) _).setCell (p := ⟨w.heap.size, 2, none⟩) (Nat.le_refl _) _).alloc (by simpa [World.setCell] using ZB.out.size) _

set_option maxRecDepth 100000 in
set_option maxHeartbeats 3200000 in
theorem redo_some (base g : Nat) (F : Nat → Prop) (t : ByteArray) (ver : Int) (us ys : List S31) (x : S31) (w : World) (h : Hist base w g F t ver us (ys ++ [x]))
    (hf : fits t.size x) (ht : t.size ≤ 1099511627776) (hx : x.f2.size ≤ 1099511627776) (hv0 : 0 ≤ ver) (hv1 : ver ≤ 1000000) (hl : ys.length ≤ 1000000) (hl2 : us.length ≤ 1000000) :
    Calls Try.prog 50 #[.pointer (some ⟨g, 0, none⟩), .pointer (some ⟨g, 3, none⟩), .pointer (some ⟨g, 2, none⟩)] w fun r w' => r = .returned (.tuple #[.agg #[.int .i64 x.f0, .int .i64 x.f1, .string x.f2], .int .i64 0]) ∧ To base g F (ap t x) (ver + 1) (us ++ [inv t x]) ys w w' := by
  obtain ⟨vu, vr, hb, h1, h2, h3, h4, h5, h6, h7⟩ := h
  have hlen : (ys ++ [x]).length = ys.length + 1 := by simp
  rw [hlen] at h2
  obtain ⟨A, c, rfl, _, _⟩ := own_slice h2
  have lg := blk_lt hb
  have HB := Aside0.mk hb
  have HF := Aside0.mk hf
  have H1 := Aside0.mk h2
  have H2 := Aside0.mk h1
  have H3 := Aside0.mk h3
  have H4 := Aside0.mk h4
  have H5 := Aside0.mk h6
  have H6 := Aside0.mk h5
  have H7 := Aside0.mk h7
  clear hb hf h1 h2 h3 h4 h5 h6 h7 hlen
  go_enter Try.func50, Try.ntmps50
  go_wp2_with fail
  have hx0 : (w.alloc (.cells #[.int .i64 0, .int .i64 0, .string ⟨#[]⟩] 31)).heap[w.heap.size]? = some (.cells #[.int .i64 0, .int .i64 0, .string ⟨#[]⟩] 31 (0, 0)) := by simpa using heap_alloc_new w _
  have hx4 : Below w.heap.size w (w.alloc (.cells #[.int .i64 0, .int .i64 0, .string ⟨#[]⟩] 31)) := (Below.refl _ _).alloc (Nat.le_refl _) _
  have hx2 := blk_alloc HB.out (.cells #[.int .i64 0, .int .i64 0, .string ⟨#[]⟩] 31)
  have hx5 : (w.alloc (.cells #[.int .i64 0, .int .i64 0, .string ⟨#[]⟩] 31)).heap.size = w.heap.size + 1 := by simp
  generalize w.alloc (.cells #[.int .i64 0, .int .i64 0, .string ⟨#[]⟩] 31) = W at hx0 hx2 hx4 hx5 ⊢
  have X0 := Aside0.mk hx0
  have X2 := Aside0.mk hx2
  have X4 := Aside0.mk hx4
  have X5 := Aside0.mk hx5
  have X6 := Aside0.mk (own_move H1.out (fun k hk => X4.out.block k (H7.out k (H5.out k hk)).2))
  clear hx0 hx2 hx4 hx5
  go_wp2_with (first
    | (go_at_call 57; (with_reducible refine (pop_some base g 3 _ A c ys x W X2.out rfl X6.out hl).mono ?_); rintro r w1 ⟨rfl, hp1, hp2, hp3⟩; have P1 : Aside0 (w1.heap[g]? = some (.cells #[.string t, .int .i64 ver, vu, .slice A ys.length c] 66 (0, 0))) := ⟨hp1⟩; have P2 := Aside0.mk hp2; have P3 := Aside0.mk hp3; have P0 := Aside0.mk ((hp3.block (blk_lt X0.out) (Nat.ne_of_gt lg)).trans X0.out); clear hp1 hp2 hp3)
    | (go_at_call 49; (with_reducible refine (step_any g t ver _ _ x (w1.alloc _) (blk_alloc P1.out _) HF.out ht hx hv0 hv1).mono ?_); rintro r w2 ⟨rfl, hs1, hs2⟩; have S1 := Aside0.mk hs1; have S2 := Aside0.mk hs2; have S0 := Aside0.mk (mv_far (blk_alloc P0.out _) hs2 (Nat.ne_of_gt lg)); have S8 := Aside0.mk (mv_far (blk_new w1 _) hs2 (Nat.ne_of_gt (Nat.lt_of_lt_of_le lg (Nat.le_trans X4.out.size P3.out.size)))); have S3 : Aside0 (w2.ownsRow base 31 3 vu us.length (cel us)) := ⟨mv_own H2.out HB.out X4.out P3.out hs2⟩; clear hs1 hs2)
    | (go_at_call 48; (with_reducible refine (push_any base g 2 _ _ us (inv t x) w2 S1.out rfl S3.out (mv_base H7.out H4.out X4.out P3.out S2.out) hl2).mono ?_); rintro r w3 ⟨rfl, v', hq1, hq2, hq3, hq4⟩; have Q1 : Aside0 (w3.heap[g]? = some (.cells #[.string (ap t x), .int .i64 (ver + 1), v', .slice A ys.length c] 66 (0, 0))) := ⟨hq1⟩; have Q2 := Aside0.mk hq2; have Q3 := Aside0.mk hq3; have Q4 := Aside0.mk hq4; have Q0 := Aside0.mk (mv_far2 S0.out hq4 (Nat.ne_of_gt lg) (fun h => Nat.lt_irrefl _ (H7.out _ (H6.out _ h)).2)); have Q8 := Aside0.mk (mv_far2 S8.out hq4 (Nat.ne_of_gt (Nat.lt_of_lt_of_le lg (Nat.le_trans X4.out.size P3.out.size))) (fun h => Nat.lt_irrefl _ (Nat.lt_of_lt_of_le (H7.out _ (H6.out _ h)).2 (Nat.le_trans X4.out.size P3.out.size)))); clear hq1 hq2 hq3 hq4; have z0 : w3.cell? ⟨w.heap.size, 0, none⟩ = some (.int .i64 0) := (blk_cell Q0.out 0).trans rfl; have z1 : w3.cell? ⟨w.heap.size, 1, none⟩ = some (.int .i64 0) := (blk_cell Q0.out 1).trans rfl; have z2 : w3.cell? ⟨w.heap.size, 2, none⟩ = some (.string ⟨#[]⟩) := (blk_cell Q0.out 2).trans rfl; have y0 := blk_frozen Q0.out 0; have y1 := blk_frozen Q0.out 1; have y2 := blk_frozen Q0.out 2; have b0 : w3.cell? ⟨w1.heap.size, 0, none⟩ = some (.int .i64 x.f0) := (blk_cell Q8.out 0).trans rfl; have b1 : w3.cell? ⟨w1.heap.size, 1, none⟩ = some (.int .i64 x.f1) := (blk_cell Q8.out 1).trans rfl; have b2 : w3.cell? ⟨w1.heap.size, 2, none⟩ = some (.string x.f2) := (blk_cell Q8.out 2).trans rfl))
  refine bodyPost_ret (results_ct rfl _ _ w.heap.size 31 #[.int .i64 x.f0, .int .i64 x.f1, .string x.f2] (0, 0) _ rfl (blk_put (blk_put (blk_put Q0.out 0 _ rfl) 1 _ rfl) 2 _ rfl) Try.underlying31 rfl (by kernel_rfl)) rfl ?_
  exact ⟨rfl, mv_end_redo HB.out H1.out H3.out H4.out H5.out H6.out H7.out X4.out P2.out P3.out S2.out Q1.out Q2.out Q3.out Q4.out (Nat.lt_of_lt_of_le (blk_lt P0.out) (Nat.le_trans (Nat.le_of_lt (by simp)) S2.out.size))⟩

/-- A block that was new ahead of a history's call is as it was behind it. -/
theorem call_cell {base g : Nat} {F : Nat → Prop} {t t' : ByteArray} {ver ver' : Int} {us rs us' rs' : List S31} {w W w1 : World} {o : Obj} (h : Hist base w g F t ver us rs) (hb : W.heap[w.heap.size]? = some o) (hto : To base g F t' ver' us' rs' W.drew w1) : w1.heap[w.heap.size]? = some o := by
  obtain ⟨F', _, _, hd⟩ := hto
  exact (hd.block (k := w.heap.size) (blk_lt (blk_drew hb)) (fun hk => Nat.lt_irrefl _ (h.lt _ hk).2)).trans hb
theorem call_end {base g : Nat} {F : Nat → Prop} {t t' : ByteArray} {ver ver' : Int} {us rs us' rs' : List S31} {w W w1 : World} (h : Hist base w g F t ver us rs) (hB : Below w.heap.size w W) (hlt : w.heap.size < W.heap.size) (hto : To base g F t' ver' us' rs' W.drew w1) {a b d : Value} :
    To base g F t' ver' us' rs' w (((w1.setCell ⟨w.heap.size, 0, none⟩ a).setCell ⟨w.heap.size, 1, none⟩ b).setCell ⟨w.heap.size, 2, none⟩ d) := by
  obtain ⟨F', h1, h2, h3⟩ := hto
  have hF : ∀ k, F' k → k ≠ w.heap.size := fun k hk e => by
    subst e
    rcases h2 _ hk with h' | h'
    · exact Nat.lt_irrefl _ (h.lt _ h').2
    · have h'' : W.heap.size ≤ w.heap.size := h'
      omega
  have d0 : Did w W.drew F := Did.drew (Did.of_below hB F)
  have d1 : Did w w1 F := d0.then_ h3 (fun k hk => .inl hk)
  refine ⟨F', h1.keep (fun k hk => mv_last (hF k hk) a b d) (Nat.le_of_eq (mv_size w.heap.size a b d).symm), fun k hk => ?_, ((d1.setCell (p := ⟨w.heap.size, 0, none⟩) (.inr (Nat.le_refl _)) a).setCell (p := ⟨w.heap.size, 1, none⟩) (.inr (Nat.le_refl _)) b).setCell (p := ⟨w.heap.size, 2, none⟩) (.inr (Nat.le_refl _)) d⟩
  rcases h2 k hk with h' | h'
  · exact .inl h'
  · right
    have h'' : W.heap.size ≤ k := h'
    omega

set_option maxRecDepth 100000 in
set_option maxHeartbeats 3200000 in
/-- (*History).Undo, nothing to move. -/
theorem Undo_none (base g : Nat) (F : Nat → Prop) (t : ByteArray) (ver : Int) (us rs : List S31) (w : World) (h : Hist base w g F t ver us rs) (he : us = []) :
    Calls Try.prog 29 #[.pointer (some ⟨g, 0, none⟩)] w fun r w' => r = .returned (.tuple #[.agg #[.int .i64 0, .int .i64 0, .string ⟨#[]⟩], .int .i64 15]) ∧ Below w.heap.size w w' := by
  have HH := Aside0.mk h
  have HE := Aside0.mk he
  clear h he
  go_enter Try.func29, Try.ntmps29
  go_wp2_with fail
  have hx0 : (w.alloc (.cells #[.int .i64 0, .int .i64 0, .string ⟨#[]⟩] 31)).heap[w.heap.size]? = some (.cells #[.int .i64 0, .int .i64 0, .string ⟨#[]⟩] 31 (0, 0)) := by simpa using heap_alloc_new w _
  have hx4 : Below w.heap.size w (w.alloc (.cells #[.int .i64 0, .int .i64 0, .string ⟨#[]⟩] 31)) := (Below.refl _ _).alloc (Nat.le_refl _) _
  generalize w.alloc (.cells #[.int .i64 0, .int .i64 0, .string ⟨#[]⟩] 31) = W at hx0 hx4 ⊢
  have X0 := Aside0.mk hx0
  have X4 := Aside0.mk hx4
  have XH : Aside0 (Hist base W.drew g F t ver us rs) := ⟨(HH.out.below X4.out).below (Below.drew (Below.refl _ _))⟩
  clear hx0 hx4
  go_region_held3 (fun w' => True) (first | exact trivial | go_keep)
    (first | (go_at_call 50; (with_reducible refine (undo_none base g F t ver us rs W.drew XH.out HE.out).mono ?_); rintro r w1 ⟨rfl, hbel⟩; have Z0 := Aside0.mk (blk_below (blk_drew X0.out) hbel); have ZB := Aside0.mk (X4.out.drew.trans (hbel.mono X4.out.drew.size)); clear hbel; have z0 : w1.cell? ⟨w.heap.size, 0, none⟩ = some (.int .i64 0) := (blk_cell Z0.out 0).trans rfl; have z1 : w1.cell? ⟨w.heap.size, 1, none⟩ = some (.int .i64 0) := (blk_cell Z0.out 1).trans rfl; have z2 : w1.cell? ⟨w.heap.size, 2, none⟩ = some (.string ⟨#[]⟩) := (blk_cell Z0.out 2).trans rfl; have y0 := blk_frozen Z0.out 0; have y1 := blk_frozen Z0.out 1; have y2 := blk_frozen Z0.out 2))
  all_goals go_wp2
  all_goals refine bodyPost_ret (results_ct rfl _ _ w.heap.size 31 #[.int .i64 0, .int .i64 0, .string ⟨#[]⟩] (0, 0) _ rfl (blk_put (blk_put (blk_put Z0.out 0 _ rfl) 1 _ rfl) 2 _ rfl) Try.underlying31 rfl (by kernel_rfl)) rfl ?_
  all_goals exact ⟨rfl, ((ZB.out.setCell (p := ⟨w.heap.size, 0, none⟩) (Nat.le_refl _) _).setCell (p := ⟨w.heap.size, 1, none⟩) (Nat.le_refl _) _).setCell (p := ⟨w.heap.size, 2, none⟩) (Nat.le_refl _) _⟩

set_option maxRecDepth 100000 in
set_option maxHeartbeats 3200000 in
/-- (*History).Undo. -/
theorem Undo_some (base g : Nat) (F : Nat → Prop) (t : ByteArray) (ver : Int) (rs ys : List S31) (x : S31) (w : World) (h : Hist base w g F t ver (ys ++ [x]) rs)
    (hf : fits t.size x) (ht : t.size ≤ 1099511627776) (hx : x.f2.size ≤ 1099511627776) (hv0 : 0 ≤ ver) (hv1 : ver ≤ 1000000) (hl : ys.length ≤ 1000000) (hl2 : rs.length ≤ 1000000) :
    Calls Try.prog 29 #[.pointer (some ⟨g, 0, none⟩)] w fun r w' => r = .returned (.tuple #[.agg #[.int .i64 x.f0, .int .i64 x.f1, .string x.f2], .int .i64 0]) ∧ To base g F (ap t x) (ver + 1) ys (rs ++ [inv t x]) w w' := by
  have HH := Aside0.mk h
  have HF := Aside0.mk hf
  clear h hf
  go_enter Try.func29, Try.ntmps29
  go_wp2_with fail
  have hx0 : (w.alloc (.cells #[.int .i64 0, .int .i64 0, .string ⟨#[]⟩] 31)).heap[w.heap.size]? = some (.cells #[.int .i64 0, .int .i64 0, .string ⟨#[]⟩] 31 (0, 0)) := by simpa using heap_alloc_new w _
  have hx4 : Below w.heap.size w (w.alloc (.cells #[.int .i64 0, .int .i64 0, .string ⟨#[]⟩] 31)) := (Below.refl _ _).alloc (Nat.le_refl _) _
  generalize w.alloc (.cells #[.int .i64 0, .int .i64 0, .string ⟨#[]⟩] 31) = W at hx0 hx4 ⊢
  have X0 := Aside0.mk hx0
  have X4 := Aside0.mk hx4
  have XH : Aside0 (Hist base W.drew g F t ver (ys ++ [x]) rs) := ⟨(HH.out.below X4.out).below (Below.drew (Below.refl _ _))⟩
  clear hx0 hx4
  go_region_held3 (fun w' => True) (first | exact trivial | go_keep)
    (first | (go_at_call 50; (with_reducible refine (undo_some base g F t ver rs ys x W.drew XH.out HF.out ht hx hv0 hv1 hl hl2).mono ?_); rintro r w1 ⟨rfl, hto⟩; have TO := Aside0.mk hto; have Z0 := Aside0.mk (call_cell HH.out X0.out hto); clear hto; have z0 : w1.cell? ⟨w.heap.size, 0, none⟩ = some (.int .i64 0) := (blk_cell Z0.out 0).trans rfl; have z1 : w1.cell? ⟨w.heap.size, 1, none⟩ = some (.int .i64 0) := (blk_cell Z0.out 1).trans rfl; have z2 : w1.cell? ⟨w.heap.size, 2, none⟩ = some (.string ⟨#[]⟩) := (blk_cell Z0.out 2).trans rfl; have y0 := blk_frozen Z0.out 0; have y1 := blk_frozen Z0.out 1; have y2 := blk_frozen Z0.out 2))
  all_goals go_wp2
  all_goals refine bodyPost_ret (results_ct rfl _ _ w.heap.size 31 #[.int .i64 x.f0, .int .i64 x.f1, .string x.f2] (0, 0) _ rfl (blk_put (blk_put (blk_put Z0.out 0 _ rfl) 1 _ rfl) 2 _ rfl) Try.underlying31 rfl (by kernel_rfl)) rfl ?_
  all_goals exact ⟨rfl, call_end HH.out X4.out (blk_lt X0.out) TO.out⟩

set_option maxRecDepth 100000 in
set_option maxHeartbeats 3200000 in
/-- (*History).Redo, nothing to move. -/
theorem Redo_none (base g : Nat) (F : Nat → Prop) (t : ByteArray) (ver : Int) (us rs : List S31) (w : World) (h : Hist base w g F t ver us rs) (he : rs = []) :
    Calls Try.prog 30 #[.pointer (some ⟨g, 0, none⟩)] w fun r w' => r = .returned (.tuple #[.agg #[.int .i64 0, .int .i64 0, .string ⟨#[]⟩], .int .i64 15]) ∧ Below w.heap.size w w' := by
  have HH := Aside0.mk h
  have HE := Aside0.mk he
  clear h he
  go_enter Try.func30, Try.ntmps30
  go_wp2_with fail
  have hx0 : (w.alloc (.cells #[.int .i64 0, .int .i64 0, .string ⟨#[]⟩] 31)).heap[w.heap.size]? = some (.cells #[.int .i64 0, .int .i64 0, .string ⟨#[]⟩] 31 (0, 0)) := by simpa using heap_alloc_new w _
  have hx4 : Below w.heap.size w (w.alloc (.cells #[.int .i64 0, .int .i64 0, .string ⟨#[]⟩] 31)) := (Below.refl _ _).alloc (Nat.le_refl _) _
  generalize w.alloc (.cells #[.int .i64 0, .int .i64 0, .string ⟨#[]⟩] 31) = W at hx0 hx4 ⊢
  have X0 := Aside0.mk hx0
  have X4 := Aside0.mk hx4
  have XH : Aside0 (Hist base W.drew g F t ver us rs) := ⟨(HH.out.below X4.out).below (Below.drew (Below.refl _ _))⟩
  clear hx0 hx4
  go_region_held3 (fun w' => True) (first | exact trivial | go_keep)
    (first | (go_at_call 50; (with_reducible refine (redo_none base g F t ver us rs W.drew XH.out HE.out).mono ?_); rintro r w1 ⟨rfl, hbel⟩; have Z0 := Aside0.mk (blk_below (blk_drew X0.out) hbel); have ZB := Aside0.mk (X4.out.drew.trans (hbel.mono X4.out.drew.size)); clear hbel; have z0 : w1.cell? ⟨w.heap.size, 0, none⟩ = some (.int .i64 0) := (blk_cell Z0.out 0).trans rfl; have z1 : w1.cell? ⟨w.heap.size, 1, none⟩ = some (.int .i64 0) := (blk_cell Z0.out 1).trans rfl; have z2 : w1.cell? ⟨w.heap.size, 2, none⟩ = some (.string ⟨#[]⟩) := (blk_cell Z0.out 2).trans rfl; have y0 := blk_frozen Z0.out 0; have y1 := blk_frozen Z0.out 1; have y2 := blk_frozen Z0.out 2))
  all_goals go_wp2
  all_goals refine bodyPost_ret (results_ct rfl _ _ w.heap.size 31 #[.int .i64 0, .int .i64 0, .string ⟨#[]⟩] (0, 0) _ rfl (blk_put (blk_put (blk_put Z0.out 0 _ rfl) 1 _ rfl) 2 _ rfl) Try.underlying31 rfl (by kernel_rfl)) rfl ?_
  all_goals exact ⟨rfl, ((ZB.out.setCell (p := ⟨w.heap.size, 0, none⟩) (Nat.le_refl _) _).setCell (p := ⟨w.heap.size, 1, none⟩) (Nat.le_refl _) _).setCell (p := ⟨w.heap.size, 2, none⟩) (Nat.le_refl _) _⟩

set_option maxRecDepth 100000 in
set_option maxHeartbeats 3200000 in
/-- (*History).Redo. -/
theorem Redo_some (base g : Nat) (F : Nat → Prop) (t : ByteArray) (ver : Int) (us ys : List S31) (x : S31) (w : World) (h : Hist base w g F t ver us (ys ++ [x]))
    (hf : fits t.size x) (ht : t.size ≤ 1099511627776) (hx : x.f2.size ≤ 1099511627776) (hv0 : 0 ≤ ver) (hv1 : ver ≤ 1000000) (hl : ys.length ≤ 1000000) (hl2 : us.length ≤ 1000000) :
    Calls Try.prog 30 #[.pointer (some ⟨g, 0, none⟩)] w fun r w' => r = .returned (.tuple #[.agg #[.int .i64 x.f0, .int .i64 x.f1, .string x.f2], .int .i64 0]) ∧ To base g F (ap t x) (ver + 1) (us ++ [inv t x]) ys w w' := by
  have HH := Aside0.mk h
  have HF := Aside0.mk hf
  clear h hf
  go_enter Try.func30, Try.ntmps30
  go_wp2_with fail
  have hx0 : (w.alloc (.cells #[.int .i64 0, .int .i64 0, .string ⟨#[]⟩] 31)).heap[w.heap.size]? = some (.cells #[.int .i64 0, .int .i64 0, .string ⟨#[]⟩] 31 (0, 0)) := by simpa using heap_alloc_new w _
  have hx4 : Below w.heap.size w (w.alloc (.cells #[.int .i64 0, .int .i64 0, .string ⟨#[]⟩] 31)) := (Below.refl _ _).alloc (Nat.le_refl _) _
  generalize w.alloc (.cells #[.int .i64 0, .int .i64 0, .string ⟨#[]⟩] 31) = W at hx0 hx4 ⊢
  have X0 := Aside0.mk hx0
  have X4 := Aside0.mk hx4
  have XH : Aside0 (Hist base W.drew g F t ver us (ys ++ [x])) := ⟨(HH.out.below X4.out).below (Below.drew (Below.refl _ _))⟩
  clear hx0 hx4
  go_region_held3 (fun w' => True) (first | exact trivial | go_keep)
    (first | (go_at_call 50; (with_reducible refine (redo_some base g F t ver us ys x W.drew XH.out HF.out ht hx hv0 hv1 hl hl2).mono ?_); rintro r w1 ⟨rfl, hto⟩; have TO := Aside0.mk hto; have Z0 := Aside0.mk (call_cell HH.out X0.out hto); clear hto; have z0 : w1.cell? ⟨w.heap.size, 0, none⟩ = some (.int .i64 0) := (blk_cell Z0.out 0).trans rfl; have z1 : w1.cell? ⟨w.heap.size, 1, none⟩ = some (.int .i64 0) := (blk_cell Z0.out 1).trans rfl; have z2 : w1.cell? ⟨w.heap.size, 2, none⟩ = some (.string ⟨#[]⟩) := (blk_cell Z0.out 2).trans rfl; have y0 := blk_frozen Z0.out 0; have y1 := blk_frozen Z0.out 1; have y2 := blk_frozen Z0.out 2))
  all_goals go_wp2
  all_goals refine bodyPost_ret (results_ct rfl _ _ w.heap.size 31 #[.int .i64 x.f0, .int .i64 x.f1, .string x.f2] (0, 0) _ rfl (blk_put (blk_put (blk_put Z0.out 0 _ rfl) 1 _ rfl) 2 _ rfl) Try.underlying31 rfl (by kernel_rfl)) rfl ?_
  all_goals exact ⟨rfl, call_end HH.out X4.out (blk_lt X0.out) TO.out⟩
end Go.Proofs.Ytnmgcghbfnpofaa.Hist
