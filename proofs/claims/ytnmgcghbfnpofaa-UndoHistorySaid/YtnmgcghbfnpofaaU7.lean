/- The document's example of a history: the laws' 'awake' answers true. -/
import Derived.Test.YtnmgcghbfnpofaaU6
import Derived.LaidEqlPtr
namespace Go.Proofs.Ytnmgcghbfnpofaa.Hist
open Go.RowKit Go.Proofs.Ytnmgcghbfnpofaa.PAll Go.Proofs.YtnmgcghbfnpofaaW.PrintWords Go.Proofs.Ytnmgcghbfnpofaa.Open Go.Proofs.Ytnmgcghbfnpofaa.Plain
set_option linter.unusedVariables false

/-- A history of the call's own, and what was there is as it was. -/
structure St (w0 w : World) (g : Nat) (F : Nat → Prop) (m : M) : Prop where
  hist : HistM w0.heap.size w g F m
  bel : Below w0.heap.size w0 w
theorem St.below {w0 w w' : World} {g : Nat} {F : Nat → Prop} {m : M} (h : St w0 w g F m) (hb : Below w.heap.size w w') : St w0 w' g F m := ⟨h.hist.below hb, h.bel.trans (hb.mono h.bel.size)⟩
theorem St.call {w0 w w' : World} {g : Nat} {F : Nat → Prop} {m m' : M} (h : St w0 w g F m) (ht : ToM w0.heap.size g F m' w w') : ∃ F', St w0 w' g F' m' ∧ (∀ k, F' k → F k ∨ w.heap.size ≤ k) ∧ Did w w' F := by
  obtain ⟨F', h1, h2, h3⟩ := ht
  exact ⟨F', ⟨h1, h.bel.trans (h3.below h.bel.size (fun k hk => (h.hist.lt k hk).1))⟩, h2, h3⟩
theorem St.new {w0 w w' : World} {t : ByteArray} (hb : Below w0.heap.size w0 w) (h : Hist w.heap.size w' w.heap.size (fun k => k = w.heap.size) t 0 [] []) (hw : Below w.heap.size w w') : St w0 w' w.heap.size (fun k => k = w.heap.size) ⟨t, 0, [], []⟩ := by
  refine ⟨?_, hb.trans (hw.mono hb.size)⟩
  obtain ⟨vu, vr, q1, q2, q3, q4, q5, q6, q7, q8⟩ := h
  have e1 : vu = .slice none 0 0 := by
    rcases q2.2 with ⟨h, _⟩ | ⟨gg, _, _, rfl, h1, h2, _⟩
    · exact h
    · obtain rfl := q6 gg (by simp [Value.ownBlock])
      rw [q1] at h2
      injection h2 with h2
      injection h2 with _ h66
      exact absurd h66 (by decide)
  have e2 : vr = .slice none 0 0 := by
    rcases q3.2 with ⟨h, _⟩ | ⟨gg, _, _, rfl, h1, h2, _⟩
    · exact h
    · obtain rfl := q7 gg (by simp [Value.ownBlock])
      rw [q1] at h2
      injection h2 with h2
      injection h2 with _ h66
      exact absurd h66 (by decide)
  subst e1 e2
  exact ⟨_, _, q1, ⟨rfl, .inl ⟨rfl, rfl⟩⟩, ⟨rfl, .inl ⟨rfl, rfl⟩⟩, q4, q5, q6, q7, fun k hk => ⟨by have := (q8 k hk).1; have := hb.size; omega, (q8 k hk).2⟩⟩
/-- Another block of the call's own. -/
structure Kp (w : World) (F : Nat → Prop) (p : Nat) (o : Obj) : Prop where
  blk : w.heap[p]? = some o
  out : ¬ F p
theorem Kp.below {w w' : World} {F : Nat → Prop} {p : Nat} {o : Obj} (h : Kp w F p o) (hb : Below w.heap.size w w') : Kp w' F p o := ⟨blk_below h.blk hb, h.out⟩
theorem Kp.call {w w' : World} {F F' : Nat → Prop} {p : Nat} {o : Obj} (h : Kp w F p o) (hs : ∀ k, F' k → F k ∨ w.heap.size ≤ k) (hd : Did w w' F) : Kp w' F' p o :=
  ⟨(hd.block (blk_lt h.blk) h.out).trans h.blk, fun hk => (hs p hk).elim h.out (fun h' => by have := blk_lt h.blk; omega)⟩
theorem Kp.new {w0 w : World} {g : Nat} {F : Nat → Prop} {m : M} (h : St w0 w g F m) (o : Obj) : Kp (w.alloc o) F w.heap.size o := ⟨blk_new w o, fun hk => by have := (h.hist.lt _ hk).2; omega⟩


/-- What a call of a history gives, in the laws' words. -/
def Led (w0 : World) (g : Nat) (F : Nat → Prop) (m : M) (w w' : World) : Prop := ∃ F', St w0 w' g F' m ∧ (∀ k, F' k → F k ∨ w.heap.size ≤ k) ∧ Did w w' F
theorem do_st {w0 w : World} {g n : Nat} {F : Nat → Prop} {m : M} (e : S31) (h : St w0 w g F m) (hs : Small n m) (hn : n ≤ 100000) (he : e.f2.size ≤ 1099511627776) :
    Calls Try.prog 28 #[.pointer (some ⟨g, 0, none⟩), .agg #[.int .i64 e.f0, .int .i64 e.f1, .string e.f2]] w fun r w' => r = .returned (.int .i64 (doM m e).2) ∧ Led w0 g F (doM m e).1 w w' :=
  (do_call e h.hist hs hn he).mono fun _ _ hr => ⟨hr.1, h.call hr.2⟩
theorem undo_st {w0 w : World} {g n : Nat} {F : Nat → Prop} {s0 : ByteArray} {m : M} (h : St w0 w g F m) (hg : Good s0 m) (hs : Small n m) (hn : n ≤ 100000) :
    Calls Try.prog 29 #[.pointer (some ⟨g, 0, none⟩)] w fun r w' => r = .returned (.tuple #[.agg #[.int .i64 (undoM m).2.1.f0, .int .i64 (undoM m).2.1.f1, .string (undoM m).2.1.f2], .int .i64 (undoM m).2.2]) ∧ Led w0 g F (undoM m).1 w w' :=
  (undo_call h.hist hg hs hn).mono fun _ _ hr => ⟨hr.1, h.call hr.2⟩
theorem redo_st {w0 w : World} {g n : Nat} {F : Nat → Prop} {s0 : ByteArray} {m : M} (h : St w0 w g F m) (hg : Good s0 m) (hs : Small n m) (hn : n ≤ 100000) :
    Calls Try.prog 30 #[.pointer (some ⟨g, 0, none⟩)] w fun r w' => r = .returned (.tuple #[.agg #[.int .i64 (redoM m).2.1.f0, .int .i64 (redoM m).2.1.f1, .string (redoM m).2.1.f2], .int .i64 (redoM m).2.2]) ∧ Led w0 g F (redoM m).1 w w' :=
  (redo_call h.hist hg hs hn).mono fun _ _ hr => ⟨hr.1, h.call hr.2⟩
theorem run_st {w0 w : World} {g n : Nat} {F : Nat → Prop} {s0 : ByteArray} {m : M} (x : S36) (h : St w0 w g F m) (hg : Good s0 m) (hs : Small n m) (hn : n ≤ 100000) (hx0 : 0 ≤ x.f0) (hx1 : x.f0 ≤ 255) (hxz : x.f1.f2.size ≤ 1099511627776) :
    Calls Try.prog 21 #[.pointer (some ⟨g, 0, none⟩), .agg #[.int .u8 x.f0, .int .i64 x.f1.f0, .int .i64 x.f1.f1, .string x.f1.f2]] w fun r w' =>
      r = .returned (.tuple #[.agg #[.int .i64 (stepM m x).2.1.f0, .int .i64 (stepM m x).2.1.f1, .string (stepM m x).2.1.f2], .int .i64 (stepM m x).2.2]) ∧ Led w0 g F (stepM m x).1 w w' :=
  (run_any x h.hist hg hs hn hx0 hx1 hxz).mono fun _ _ hr => ⟨hr.1, h.call hr.2⟩

/-! #### the example's states -/
def e1 : S31 := ⟨1, 1, ⟨#[120, 121]⟩⟩
def e2 : S31 := ⟨0, 0, ⟨#[122]⟩⟩
def b1 : S31 := ⟨1, 2, ⟨#[98]⟩⟩
def b2 : S31 := ⟨0, 1, ⟨#[]⟩⟩
def m0 : M := ⟨⟨#[97, 98, 99]⟩, 0, [], []⟩
def m1 : M := ⟨⟨#[97, 120, 121, 99]⟩, 1, [b1], []⟩
def m2 : M := ⟨⟨#[122, 97, 120, 121, 99]⟩, 2, [b2, b1], []⟩
def m3 : M := ⟨⟨#[97, 120, 121, 99]⟩, 3, [b1], [e2]⟩
def m4 : M := ⟨⟨#[97, 98, 99]⟩, 4, [], [e1, e2]⟩
def m5 : M := ⟨⟨#[97, 120, 121, 99]⟩, 5, [b1], [e2]⟩
theorem s1 : doM m0 e1 = (m1, 0) := by kernel_rfl
theorem s2 : doM m1 e2 = (m2, 0) := by kernel_rfl
theorem s3 : undoM m2 = (m3, b2, 0) := by kernel_rfl
theorem s4 : undoM m3 = (m4, b1, 0) := by kernel_rfl
theorem s5 : redoM m4 = (m5, e1, 0) := by kernel_rfl
theorem small_of {m : M} (h1 : decide (wt m ≤ 1000000) = true) (h2 : decide (0 ≤ m.v) = true) (h3 : decide (m.v ≤ ((10 : Nat) : Int)) = true) (h4 : decide (m.un.length + m.re.length ≤ 10) = true) : Small 10 m :=
  ⟨of_decide_eq_true h1, of_decide_eq_true h2, of_decide_eq_true h3, of_decide_eq_true h4⟩
theorem sm0 : Small 10 m0 := small_of (by kernel_rfl) (by kernel_rfl) (by kernel_rfl) (by kernel_rfl)
theorem sm1 : Small 10 m1 := small_of (by kernel_rfl) (by kernel_rfl) (by kernel_rfl) (by kernel_rfl)
theorem sm2 : Small 10 m2 := small_of (by kernel_rfl) (by kernel_rfl) (by kernel_rfl) (by kernel_rfl)
theorem sm3 : Small 10 m3 := small_of (by kernel_rfl) (by kernel_rfl) (by kernel_rfl) (by kernel_rfl)
theorem sm4 : Small 10 m4 := small_of (by kernel_rfl) (by kernel_rfl) (by kernel_rfl) (by kernel_rfl)
theorem gd0 : Good ⟨#[97, 98, 99]⟩ m0 := ⟨rfl, _, rfl⟩
theorem gd1 : Good ⟨#[97, 98, 99]⟩ m1 := by have := good_do e1 gd0; rw [s1] at this; exact this
theorem gd2 : Good ⟨#[97, 98, 99]⟩ m2 := by have := good_do e2 gd1; rw [s2] at this; exact this
theorem gd3 : Good ⟨#[97, 98, 99]⟩ m3 := by have := good_undo gd2; rw [s3] at this; exact this
theorem gd4 : Good ⟨#[97, 98, 99]⟩ m4 := by have := good_undo gd3; rw [s4] at this; exact this
section
variable {w0 w : World} {g : Nat} {F : Nat → Prop}
theorem aw1 (h : St w0 w g F m0) : Calls Try.prog 28 #[.pointer (some ⟨g, 0, none⟩), .agg #[.int .i64 1, .int .i64 1, .string ⟨#[120, 121]⟩]] w fun r w' => r = .returned (.int .i64 0) ∧ Led w0 g F m1 w w' := by
  have := do_st e1 h sm0 (by decide) (by decide)
  rw [s1] at this
  exact this
theorem aw2 (h : St w0 w g F m1) : Calls Try.prog 28 #[.pointer (some ⟨g, 0, none⟩), .agg #[.int .i64 0, .int .i64 0, .string ⟨#[122]⟩]] w fun r w' => r = .returned (.int .i64 0) ∧ Led w0 g F m2 w w' := by
  have := do_st e2 h sm1 (by decide) (by decide)
  rw [s2] at this
  exact this
theorem aw3 (h : St w0 w g F m2) : Calls Try.prog 29 #[.pointer (some ⟨g, 0, none⟩)] w fun r w' => r = .returned (.tuple #[.agg #[.int .i64 0, .int .i64 1, .string ⟨#[]⟩], .int .i64 0]) ∧ Led w0 g F m3 w w' := by
  have := undo_st h gd2 sm2 (by decide)
  rw [s3] at this
  exact this
theorem aw4 (h : St w0 w g F m3) : Calls Try.prog 29 #[.pointer (some ⟨g, 0, none⟩)] w fun r w' => r = .returned (.tuple #[.agg #[.int .i64 1, .int .i64 2, .string ⟨#[98]⟩], .int .i64 0]) ∧ Led w0 g F m4 w w' := by
  have := undo_st h gd3 sm3 (by decide)
  rw [s4] at this
  exact this
theorem aw5 (h : St w0 w g F m4) : Calls Try.prog 30 #[.pointer (some ⟨g, 0, none⟩)] w fun r w' => r = .returned (.tuple #[.agg #[.int .i64 1, .int .i64 1, .string ⟨#[120, 121]⟩], .int .i64 0]) ∧ Led w0 g F m5 w w' := by
  have := redo_st h gd4 sm4 (by decide)
  rw [s5] at this
  exact this
theorem awt (h : St w0 w g F m2) : Calls Try.prog 24 #[.pointer (some ⟨g, 0, none⟩)] w fun r w' => r = .returned (.string ⟨#[122, 97, 120, 121, 99]⟩) ∧ w = w' := text_any w h.hist
theorem awv (h : St w0 w g F m5) : Calls Try.prog 26 #[.pointer (some ⟨g, 0, none⟩)] w fun r w' => r = .returned (.int .i64 5) ∧ w = w' := version_any w h.hist
theorem awd (h : St w0 w g F m5) : Calls Try.prog 23 #[.pointer (some ⟨g, 0, none⟩)] w fun r w' => r = .returned (.tuple #[.int .i64 1, .int .i64 1]) ∧ Below w.heap.size w w' := depth_any w h.hist
end
theorem below_new (w : World) (o : Obj) : Below w.heap.size w (w.alloc o) := (Below.refl _ _).alloc (Nat.le_refl _) _

attribute [local go_sem high] eqA31
set_option maxRecDepth 100000 in
set_option maxHeartbeats 6400000 in
theorem awake_any (w : World) : Calls Try.prog 18 #[] w fun r w' => r = .returned (.bool true) ∧ Below w.heap.size w w' := by
  go_enter Try.func18, Try.ntmps18
  go_wp2_with fail
  refine (new_any _ w).mono ?_
  rintro r w1 ⟨rfl, hh, hb⟩
  have S1 : Aside0 (St w w1 w.heap.size _ m0) := ⟨St.new (Below.refl _ w) hh hb⟩
  clear hh hb
  go_wp2_with fail
  refine (aw1 S1.out).mono ?_
  rintro r w2 ⟨rfl, F2, hs, -, -⟩
  have S2 := Aside0.mk hs
  clear hs S1
  go_wp2_with fail
  refine (aw2 S2.out).mono ?_
  rintro r w3 ⟨rfl, F3, hs, -, -⟩
  have S3 := Aside0.mk hs
  clear hs S2
  go_wp2_with fail
  refine (awt S3.out).mono ?_
  rintro r w3' ⟨rfl, rfl⟩
  go_wp2_with fail
  refine (aw3 S3.out).mono ?_
  rintro r w4 ⟨rfl, F4, hs, -, -⟩
  have S4 := Aside0.mk (hs.below (below_new w4 (.cells #[.int .i64 0, .int .i64 1, .string ⟨#[]⟩] 31)))
  have K4 := Aside0.mk (Kp.new hs (.cells #[.int .i64 0, .int .i64 1, .string ⟨#[]⟩] 31))
  clear hs S3
  go_wp2_with fail
  generalize w4.alloc (.cells #[.int .i64 0, .int .i64 1, .string ⟨#[]⟩] 31) = W4 at S4 K4 ⊢
  refine (aw4 S4.out).mono ?_
  rintro r w5 ⟨rfl, F5, hs, hf, hd⟩
  have S5 := Aside0.mk (hs.below (below_new w5 (.cells #[.int .i64 1, .int .i64 2, .string ⟨#[98]⟩] 31)))
  have K5 := Aside0.mk (Kp.new hs (.cells #[.int .i64 1, .int .i64 2, .string ⟨#[98]⟩] 31))
  have K45 := Aside0.mk ((K4.out.call hf hd).below (below_new w5 (.cells #[.int .i64 1, .int .i64 2, .string ⟨#[98]⟩] 31)))
  clear hs hf hd S4 K4
  go_wp2_with fail
  generalize w5.alloc (.cells #[.int .i64 1, .int .i64 2, .string ⟨#[98]⟩] 31) = W5 at S5 K5 K45 ⊢
  refine (aw5 S5.out).mono ?_
  rintro r w6 ⟨rfl, F6, hs, hf, hd⟩
  have S6 := Aside0.mk (hs.below (below_new w6 (.cells #[.int .i64 1, .int .i64 1, .string ⟨#[120, 121]⟩] 31)))
  have K6 := Aside0.mk (Kp.new hs (.cells #[.int .i64 1, .int .i64 1, .string ⟨#[120, 121]⟩] 31))
  have K46 := Aside0.mk ((K45.out.call hf hd).below (below_new w6 (.cells #[.int .i64 1, .int .i64 1, .string ⟨#[120, 121]⟩] 31)))
  have K56 := Aside0.mk ((K5.out.call hf hd).below (below_new w6 (.cells #[.int .i64 1, .int .i64 1, .string ⟨#[120, 121]⟩] 31)))
  clear hs hf hd S5 K5 K45
  go_wp2_with fail
  generalize w6.alloc (.cells #[.int .i64 1, .int .i64 1, .string ⟨#[120, 121]⟩] 31) = W6 at S6 K6 K46 K56 ⊢
  refine (awd S6.out).mono ?_
  rintro r w7 ⟨rfl, hb⟩
  have S7 := Aside0.mk (S6.out.below hb)
  have A7 := Aside0.mk (K46.out.below hb)
  have B7 := Aside0.mk (K56.out.below hb)
  have C7 := Aside0.mk (K6.out.below hb)
  clear hb S6 K6 K46 K56
  have a0 : w7.cell? ⟨w4.heap.size, 0, none⟩ = some (.int .i64 0) := (blk_cell A7.out.blk 0).trans rfl
  have a1 : w7.cell? ⟨w4.heap.size, 1, none⟩ = some (.int .i64 1) := (blk_cell A7.out.blk 1).trans rfl
  have a2 : w7.cell? ⟨w4.heap.size, 2, none⟩ = some (.string ⟨#[]⟩) := (blk_cell A7.out.blk 2).trans rfl
  have b0 : w7.cell? ⟨w5.heap.size, 0, none⟩ = some (.int .i64 1) := (blk_cell B7.out.blk 0).trans rfl
  have b1 : w7.cell? ⟨w5.heap.size, 1, none⟩ = some (.int .i64 2) := (blk_cell B7.out.blk 1).trans rfl
  have b2 : w7.cell? ⟨w5.heap.size, 2, none⟩ = some (.string ⟨#[98]⟩) := (blk_cell B7.out.blk 2).trans rfl
  have c0 : w7.cell? ⟨w6.heap.size, 0, none⟩ = some (.int .i64 1) := (blk_cell C7.out.blk 0).trans rfl
  have c1 : w7.cell? ⟨w6.heap.size, 1, none⟩ = some (.int .i64 1) := (blk_cell C7.out.blk 1).trans rfl
  have c2 : w7.cell? ⟨w6.heap.size, 2, none⟩ = some (.string ⟨#[120, 121]⟩) := (blk_cell C7.out.blk 2).trans rfl
  go_wp2_with (go_at_call 26; (with_reducible refine (awv S7.out).mono ?_); rintro r w8 ⟨rfl, rfl⟩)
  go_ret
  exact ⟨rfl, S7.out.bel⟩
end Go.Proofs.Ytnmgcghbfnpofaa.Hist
