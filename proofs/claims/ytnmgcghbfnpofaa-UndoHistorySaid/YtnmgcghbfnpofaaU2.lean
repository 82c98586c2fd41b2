/- The history's step: an edit that fits is applied to the text; its inverse is what comes back. -/
import Derived.Test.YtnmgcghbfnpofaaU1
import Derived.Deep.RegionLaw
import Derived.Deep.RegionWith
import Derived.Deep.DeepCutAuto
namespace Go.Proofs.Ytnmgcghbfnpofaa.Hist
open Go.RowKit Go.Proofs.Ytnmgcghbfnpofaa.PAll Go.Proofs.YtnmgcghbfnpofaaW.PrintWords Go.Proofs.Ytnmgcghbfnpofaa.Open Go.Proofs.Ytnmgcghbfnpofaa.Plain
set_option linter.unusedVariables false

theorem apply_fits (s : ByteArray) (e : S31) (w : World) (hf : fits s.size e) (hs : s.size ≤ 1099511627776) (he : e.f2.size ≤ 1099511627776) :
    Calls Try.prog 34 #[.string s, .agg #[.int .i64 e.f0, .int .i64 e.f1, .string e.f2]] w fun r w' => r = .returned (.tuple #[.string (ap s e), .int .i64 0]) ∧ Below w.heap.size w w' :=
  textedit_Apply.calls s e.f0 e.f1 e.f2 (ap s e) 0 w (by rw [apply_eq s e hs he, if_pos hf])
theorem apply_not (s : ByteArray) (e : S31) (w : World) (hf : ¬ fits s.size e) (hs : s.size ≤ 1099511627776) (he : e.f2.size ≤ 1099511627776) :
    Calls Try.prog 34 #[.string s, .agg #[.int .i64 e.f0, .int .i64 e.f1, .string e.f2]] w fun r w' => r = .returned (.tuple #[.string ⟨#[]⟩, .int .i64 2]) ∧ Below w.heap.size w w' :=
  textedit_Apply.calls s e.f0 e.f1 e.f2 ⟨#[]⟩ 2 w (by rw [apply_eq s e hs he, if_neg hf])
theorem invert_fits (s : ByteArray) (e : S31) (w : World) (hf : fits s.size e) (hs : s.size ≤ 1099511627776) :
    Calls Try.prog 41 #[.string s, .agg #[.int .i64 e.f0, .int .i64 e.f1, .string e.f2]] w fun r w' => r = .returned (.tuple #[.agg #[.int .i64 (inv s e).f0, .int .i64 (inv s e).f1, .string (inv s e).f2], .int .i64 0]) ∧ Below w.heap.size w w' :=
  textedit_Invert.calls s e.f0 e.f1 e.f2 (inv s e).f0 (inv s e).f1 (inv s e).f2 0 w (by rw [invert_eq s e hs, if_pos hf])

theorem belowX {W X w1 : World} (hX : Below W.heap.size W X) (hb : Below X.heap.size X w1) : Below W.heap.size W w1 := hX.trans (hb.mono hX.size)

/-- What the step leaves. -/
def Stepped (g : Nat) (t : ByteArray) (ver : Int) (vu vr : Value) (e : S31) (w : World) (r : Ending) (w' : World) : Prop :=
  r = .returned (.agg #[.int .i64 (inv t e).f0, .int .i64 (inv t e).f1, .string (inv t e).f2]) ∧ w'.heap[g]? = some (.cells #[.string (ap t e), .int .i64 (ver + 1), vu, vr] 66 (0, 0)) ∧ Did w w' (fun k => k = g)

theorem step_cell {w1 : World} {g b : Nat} (h : b ≠ g) (hz : w1.heap[b]? = some (.cells #[.int .i64 0, .int .i64 0, .string ⟨#[]⟩] 31 (0, 0))) {x y z1 z2 z3 : Value} :
    (((((w1.setCell ⟨g, 0, none⟩ x).setCell ⟨g, 1, none⟩ y).setCell ⟨b, 0, none⟩ z1).setCell ⟨b, 1, none⟩ z2).setCell ⟨b, 2, none⟩ z3).heap[b]? = some (.cells #[z1, z2, z3] 31 (0, 0)) :=
  blk_put (blk_put (blk_put (blk_far (blk_far hz h _) h _) 0 _ rfl) 1 _ rfl) 2 _ rfl
theorem step_end {g : Nat} {t : ByteArray} {ver : Int} {vu vr : Value} {e : S31} {w w1 : World} (lg : g < w.heap.size) (h2 : w1.heap[g]? = some (.cells #[.string t, .int .i64 ver, vu, vr] 66 (0, 0))) (hB : Below w.heap.size w w1) :
    Stepped g t ver vu vr e w (.returned (.agg #[.int .i64 (inv t e).f0, .int .i64 (inv t e).f1, .string (inv t e).f2]))
      (((((w1.setCell ⟨g, 0, none⟩ (.string (ap t e))).setCell ⟨g, 1, none⟩ (.int .i64 (ver + 1))).setCell ⟨w.heap.size + 1, 0, none⟩ (.int .i64 (inv t e).f0)).setCell ⟨w.heap.size + 1, 1, none⟩ (.int .i64 (inv t e).f1)).setCell ⟨w.heap.size + 1, 2, none⟩ (.string (inv t e).f2)) := by
  have hn : g ≠ w.heap.size + 1 := by omega
  have hk : Did w w1 (fun k => k = g) := ⟨⟨hB.size, fun i hi _ => hB.block i hi⟩, hB.os, hB.tape, hB.output⟩
  have b1 := blk_put (blk_put h2 0 (.string (ap t e)) rfl) 1 (.int .i64 (ver + 1)) rfl
  have b2 := blk_far b1 (p := ⟨w.heap.size + 1, 0, none⟩) hn (.int .i64 (inv t e).f0)
  have b3 := blk_far b2 (p := ⟨w.heap.size + 1, 1, none⟩) hn (.int .i64 (inv t e).f1)
  have b4 := blk_far b3 (p := ⟨w.heap.size + 1, 2, none⟩) hn (.string (inv t e).f2)
  have k1 := hk.setCell (p := ⟨g, 0, none⟩) (.inl rfl) (.string (ap t e))
  have k2 := k1.setCell (p := ⟨g, 1, none⟩) (.inl rfl) (.int .i64 (ver + 1))
  have k3 := k2.setCell (p := ⟨w.heap.size + 1, 0, none⟩) (.inr (Nat.le_succ _)) (.int .i64 (inv t e).f0)
  have k4 := k3.setCell (p := ⟨w.heap.size + 1, 1, none⟩) (.inr (Nat.le_succ _)) (.int .i64 (inv t e).f1)
  have k5 := k4.setCell (p := ⟨w.heap.size + 1, 2, none⟩) (.inr (Nat.le_succ _)) (.string (inv t e).f2)
  exact ⟨rfl, b4, k5⟩

set_option maxRecDepth 100000 in
set_option maxHeartbeats 3200000 in
theorem step_any (g : Nat) (t : ByteArray) (ver : Int) (vu vr : Value) (e : S31) (w : World)
    (hb : w.heap[g]? = some (.cells #[.string t, .int .i64 ver, vu, vr] 66 (0, 0))) (hf : fits t.size e) (ht : t.size ≤ 1099511627776) (he : e.f2.size ≤ 1099511627776) (hv0 : 0 ≤ ver) (hv1 : ver ≤ 1000000) :
    Calls Try.prog 49 #[.pointer (some ⟨g, 0, none⟩), .agg #[.int .i64 e.f0, .int .i64 e.f1, .string e.f2]] w (Stepped g t ver vu vr e w) := by
  have hc : w.cell? ⟨g, 0, none⟩ = some (.string t) := (blk_cell hb 0).trans rfl
  have lg := World.block_lt_of_cell? w _ hc
  have HB := Aside0.mk hb
  have HF := Aside0.mk hf
  clear hb hf
  go_enter Try.func49, Try.ntmps49
  go_wp2_with fail
  have hx0 : ((w.alloc (.cells #[.int .i64 e.f0, .int .i64 e.f1, .string e.f2] 31)).alloc (.cells #[.int .i64 0, .int .i64 0, .string ⟨#[]⟩] 31)).heap[w.heap.size]? = some (.cells #[.int .i64 e.f0, .int .i64 e.f1, .string e.f2] 31 (0, 0)) := blk_alloc (by simpa using heap_alloc_new w _) _
  have hx1 : ((w.alloc (.cells #[.int .i64 e.f0, .int .i64 e.f1, .string e.f2] 31)).alloc (.cells #[.int .i64 0, .int .i64 0, .string ⟨#[]⟩] 31)).heap[w.heap.size + 1]? = some (.cells #[.int .i64 0, .int .i64 0, .string ⟨#[]⟩] 31 (0, 0)) := by simpa using heap_alloc_new (w.alloc _) _
  have hx2 := blk_alloc (blk_alloc HB.out (.cells #[.int .i64 e.f0, .int .i64 e.f1, .string e.f2] 31)) (.cells #[.int .i64 0, .int .i64 0, .string ⟨#[]⟩] 31)
  have hx3 : ((w.alloc (.cells #[.int .i64 e.f0, .int .i64 e.f1, .string e.f2] 31)).alloc (.cells #[.int .i64 0, .int .i64 0, .string ⟨#[]⟩] 31)).heap.size = w.heap.size + 2 := by simp
  have hx4 : Below w.heap.size w ((w.alloc (.cells #[.int .i64 e.f0, .int .i64 e.f1, .string e.f2] 31)).alloc (.cells #[.int .i64 0, .int .i64 0, .string ⟨#[]⟩] 31)) := ((Below.refl _ _).alloc (Nat.le_refl _) _).alloc (by simp) _
  generalize (w.alloc (.cells #[.int .i64 e.f0, .int .i64 e.f1, .string e.f2] 31)).alloc (.cells #[.int .i64 0, .int .i64 0, .string ⟨#[]⟩] 31) = W at hx0 hx1 hx2 hx3 hx4 ⊢
  have c0 : W.cell? ⟨g, 0, none⟩ = some (.string t) := (blk_cell hx2 0).trans rfl
  have c1 : W.cell? ⟨w.heap.size, 0, none⟩ = some (.int .i64 e.f0) := (blk_cell hx0 0).trans rfl
  have c2 : W.cell? ⟨w.heap.size, 1, none⟩ = some (.int .i64 e.f1) := (blk_cell hx0 1).trans rfl
  have c3 : W.cell? ⟨w.heap.size, 2, none⟩ = some (.string e.f2) := (blk_cell hx0 2).trans rfl
  have n0 := World.new_ne _ _ c0
  have n1 := World.new_ne _ _ c1
  have n2 := World.new_ne _ _ c2
  have n3 := World.new_ne _ _ c3
  have X0 := Aside0.mk hx0
  have X1 := Aside0.mk hx1
  have X2 := Aside0.mk hx2
  have X3 := Aside0.mk hx3
  have X4 := Aside0.mk hx4
  clear hx0 hx1 hx2 hx3 hx4
  go_cut [5] (fun v5 wc => ∃ p : Nat, v5 = .pointer (some ⟨p, 0, none⟩) ∧ Aside0 (wc.heap[p]? = some (.cells #[.int .i64 (inv t e).f0, .int .i64 (inv t e).f1, .string (inv t e).f2] 31 (0, 0)) ∧ W.heap.size ≤ p ∧ Below W.heap.size W wc))
  case first =>
    go_region_held3 (fun w' => w'.cell? ⟨g, 0, none⟩ = some (.string t) ∧ w'.cell? ⟨w.heap.size, 0, none⟩ = some (.int .i64 e.f0) ∧ w'.cell? ⟨w.heap.size, 1, none⟩ = some (.int .i64 e.f1) ∧ w'.cell? ⟨w.heap.size, 2, none⟩ = some (.string e.f2))
      (first | exact ⟨k0, k1, k2, k3⟩ | go_keep)
      (first | (go_at_call 41; (with_reducible refine (invert_fits t e W.drew HF.out ht).mono ?_); rintro r w1 ⟨rfl, hbel⟩; have hB1 : Aside0 (Below W.heap.size W w1) := ⟨belowX ((Below.refl _ _).drew) hbel⟩; clear hbel; have k0 := (hB1.out.cell (p := ⟨g, 0, none⟩) (blk_lt X2.out)).trans c0; have k1 := (hB1.out.cell (p := ⟨w.heap.size, 0, none⟩) (blk_lt X0.out)).trans c1; have k2 := (hB1.out.cell (p := ⟨w.heap.size, 1, none⟩) (blk_lt X0.out)).trans c2; have k3 := (hB1.out.cell (p := ⟨w.heap.size, 2, none⟩) (blk_lt X0.out)).trans c3) | (go_at_call 41; (with_reducible refine (invert_fits t e (W.alloc _).drew HF.out ht).mono ?_); rintro r w1 ⟨rfl, hbel⟩; have hB1 : Aside0 (Below W.heap.size W w1) := ⟨belowX (((Below.refl _ _).alloc (Nat.le_refl _) _).drew) hbel⟩; have hB2 : Aside0 (w1.heap[W.heap.size]? = some (.cells #[.int .i64 0, .int .i64 0, .string ⟨#[]⟩] 31 (0, 0))) := ⟨blk_below (blk_drew (blk_new W _)) hbel⟩; clear hbel; have k0 := (hB1.out.cell (p := ⟨g, 0, none⟩) (blk_lt X2.out)).trans c0; have k1 := (hB1.out.cell (p := ⟨w.heap.size, 0, none⟩) (blk_lt X0.out)).trans c1; have k2 := (hB1.out.cell (p := ⟨w.heap.size, 1, none⟩) (blk_lt X0.out)).trans c2; have k3 := (hB1.out.cell (p := ⟨w.heap.size, 2, none⟩) (blk_lt X0.out)).trans c3; have q0 : w1.cell? ⟨W.heap.size, 0, none⟩ = some (.int .i64 0) := (blk_cell hB2.out 0).trans rfl; have q1 : w1.cell? ⟨W.heap.size, 1, none⟩ = some (.int .i64 0) := (blk_cell hB2.out 1).trans rfl; have q2 : w1.cell? ⟨W.heap.size, 2, none⟩ = some (.string ⟨#[]⟩) := (blk_cell hB2.out 2).trans rfl; have f0 := blk_frozen hB2.out 0; have f1 := blk_frozen hB2.out 1; have f2 := blk_frozen hB2.out 2))
    all_goals go_wp2
    all_goals go_meet
    · case rel => exact ⟨_, rfl, ⟨blk_new w1 _, hB1.out.size, hB1.out.alloc hB1.out.size _⟩⟩
    · case rel => exact ⟨_, rfl, ⟨blk_put (blk_put (blk_put hB2.out 0 _ rfl) 1 _ rfl) 2 _ rfl, Nat.le_refl _, ((hB1.out.setCell (Nat.le_refl _) _).setCell (Nat.le_refl _) _).setCell (Nat.le_refl _) _⟩⟩
  case rest =>
    obtain ⟨p, rfl, hp⟩ := hcut
    obtain ⟨hpb, hpl, hpB⟩ := hp.out
    clear hp n0 n1 n2 n3 c0 c1 c2 c3
    have Y0 := Aside0.mk (blk_below X0.out hpB)
    have Y1 := Aside0.mk (blk_below X1.out hpB)
    have Y2 := Aside0.mk (blk_below X2.out hpB)
    have Yp := Aside0.mk hpb
    have hsz : w.heap.size + 2 ≤ p := by have := X3.out; omega
    have YB := Aside0.mk (X4.out.trans (hpB.mono (by have := X3.out; omega)))
    have XS := X3.out
    have hpw : w.heap.size + 2 ≤ wc.heap.size := by have := hpB.size; omega
    clear hpb hpB hpl X0 X1 X2 X3 X4 XS W
    have c0 : wc.cell? ⟨g, 0, none⟩ = some (.string t) := (blk_cell Y2.out 0).trans rfl
    have c1 : wc.cell? ⟨w.heap.size, 0, none⟩ = some (.int .i64 e.f0) := (blk_cell Y0.out 0).trans rfl
    have c2 : wc.cell? ⟨w.heap.size, 1, none⟩ = some (.int .i64 e.f1) := (blk_cell Y0.out 1).trans rfl
    have c3 : wc.cell? ⟨w.heap.size, 2, none⟩ = some (.string e.f2) := (blk_cell Y0.out 2).trans rfl
    have d1 : g ≠ p := by omega
    have d2 : p ≠ g := by omega
    have d3 : g ≠ w.heap.size + 1 := by omega
    have d4 : w.heap.size + 1 ≠ g := by omega
    have d5 : p ≠ w.heap.size + 1 := by omega
    have d6 : w.heap.size + 1 ≠ p := by omega
    go_wp2_with fail
    go_region_law
      (first | (go_simp; go_at_call 34; refine (apply_fits t e _ HF.out ht he).mono ?_; rintro r w1 ⟨rfl, hbel⟩; have Z2 := Aside0.mk (blk_below (blk_drew Y2.out) hbel); have Zp := Aside0.mk (blk_below (blk_drew Yp.out) hbel); have Z1 := Aside0.mk (blk_below (blk_drew Y1.out) hbel); have ZB := Aside0.mk (YB.out.drew.trans (hbel.mono (YB.out.drew.size))); clear hbel; have k0 : w1.cell? ⟨g, 0, none⟩ = some (.string t) := (blk_cell Z2.out 0).trans rfl; have k1 : w1.cell? ⟨g, 1, none⟩ = some (.int .i64 ver) := (blk_cell Z2.out 1).trans rfl; have f0 := blk_frozen Z2.out 0; have f1 := blk_frozen Z2.out 1; have p0 : w1.cell? ⟨p, 0, none⟩ = some (.int .i64 (inv t e).f0) := (blk_cell Zp.out 0).trans rfl; have p1 : w1.cell? ⟨p, 1, none⟩ = some (.int .i64 (inv t e).f1) := (blk_cell Zp.out 1).trans rfl; have p2 : w1.cell? ⟨p, 2, none⟩ = some (.string (inv t e).f2) := (blk_cell Zp.out 2).trans rfl; have q0 : w1.cell? ⟨w.heap.size + 1, 0, none⟩ = some (.int .i64 0) := (blk_cell Z1.out 0).trans rfl; have q1 : w1.cell? ⟨w.heap.size + 1, 1, none⟩ = some (.int .i64 0) := (blk_cell Z1.out 1).trans rfl; have q2 : w1.cell? ⟨w.heap.size + 1, 2, none⟩ = some (.string ⟨#[]⟩) := (blk_cell Z1.out 2).trans rfl; have g0 := blk_frozen Z1.out 0; have g1 := blk_frozen Z1.out 1; have g2 := blk_frozen Z1.out 2))
    all_goals
      go_wp2
      refine bodyPost_ret (results_cell_row rfl _ _ (w.heap.size + 1) 31 #[.int .i64 (inv t e).f0, .int .i64 (inv t e).f1, .string (inv t e).f2] (0, 0) _ rfl (step_cell d4 Z1.out) Try.underlying31 rfl (by kernel_rfl)) rfl ?_
      exact step_end lg Z2.out ZB.out
end Go.Proofs.Ytnmgcghbfnpofaa.Hist
