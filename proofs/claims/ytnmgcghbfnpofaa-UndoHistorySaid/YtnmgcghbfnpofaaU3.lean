/- A history in memory, and its calls: New, Text, Version, Depth, Do. -/
import Derived.Test.YtnmgcghbfnpofaaU2
import Derived.BigQuiet
import Derived.Deep.QuietTactic
namespace Go.Proofs.Ytnmgcghbfnpofaa.Hist
open Go.RowKit Go.Proofs.Ytnmgcghbfnpofaa.PAll Go.Proofs.YtnmgcghbfnpofaaW.PrintWords Go.Proofs.Ytnmgcghbfnpofaa.Open Go.Proofs.Ytnmgcghbfnpofaa.Plain
set_option linter.unusedVariables false

/-- A history at block g: its text, its version, its stacks (the next edit last); F: its blocks. -/
def Hist (base : Nat) (w : World) (g : Nat) (F : Nat → Prop) (t : ByteArray) (ver : Int) (us rs : List S31) : Prop :=
  ∃ vu vr, w.heap[g]? = some (.cells #[.string t, .int .i64 ver, vu, vr] 66 (0, 0)) ∧ w.ownsRow base 31 3 vu us.length (cel us) ∧ w.ownsRow base 31 3 vr rs.length (cel rs) ∧
    (∀ k, vu.ownBlock = some k → vr.ownBlock ≠ some k) ∧ F g ∧ (∀ k, vu.ownBlock = some k → F k) ∧ (∀ k, vr.ownBlock = some k → F k) ∧ (∀ k, F k → base ≤ k ∧ k < w.heap.size)
/-- A call has led the history from w to w'. -/
def To (base g : Nat) (F : Nat → Prop) (t : ByteArray) (ver : Int) (us rs : List S31) (w w' : World) : Prop :=
  ∃ F', Hist base w' g F' t ver us rs ∧ (∀ k, F' k → F k ∨ w.heap.size ≤ k) ∧ Did w w' F

theorem Hist.keep {base g : Nat} {F : Nat → Prop} {t : ByteArray} {ver : Int} {us rs : List S31} {w w' : World} (h : Hist base w g F t ver us rs) (hk : ∀ k, F k → w'.heap[k]? = w.heap[k]?) (hs : w.heap.size ≤ w'.heap.size) : Hist base w' g F t ver us rs := by
  obtain ⟨vu, vr, hb, h1, h2, h3, h4, h5, h6, h7⟩ := h
  exact ⟨vu, vr, (hk g h4).trans hb, own_move h1 (fun k hk' => hk k (h5 k hk')), own_move h2 (fun k hk' => hk k (h6 k hk')), h3, h4, h5, h6, fun k hk' => ⟨(h7 k hk').1, Nat.lt_of_lt_of_le (h7 k hk').2 hs⟩⟩
theorem Hist.below {base g : Nat} {F : Nat → Prop} {t : ByteArray} {ver : Int} {us rs : List S31} {w w' : World} (h : Hist base w g F t ver us rs) (hb : Below w.heap.size w w') : Hist base w' g F t ver us rs := by
  obtain ⟨vu, vr, q⟩ := h
  exact Hist.keep ⟨vu, vr, q⟩ (fun k hk => hb.block k (q.2.2.2.2.2.2.2 k hk).2) hb.size
theorem Hist.lt {base g : Nat} {F : Nat → Prop} {t : ByteArray} {ver : Int} {us rs : List S31} {w : World} (h : Hist base w g F t ver us rs) : ∀ k, F k → base ≤ k ∧ k < w.heap.size := by
  obtain ⟨vu, vr, q⟩ := h
  exact q.2.2.2.2.2.2.2
theorem To.of_below {base g : Nat} {F : Nat → Prop} {t : ByteArray} {ver : Int} {us rs : List S31} {w w' : World} (h : Hist base w g F t ver us rs) (hb : Below w.heap.size w w') : To base g F t ver us rs w w' :=
  ⟨F, h.below hb, fun k hk => .inl hk, Did.of_below hb F⟩

theorem own_ne66 {w : World} {base n g : Nat} {v : Value} {xs : List Value} {cs : Array Value} (h : w.ownsRow base 31 3 v n xs) (hb : w.heap[g]? = some (.cells cs 66 (0, 0))) : some g ≠ v.ownBlock := by
  intro he
  obtain ⟨cells, hh⟩ := own_typed h g he.symm
  rw [hb] at hh
  injection hh with hh
  injection hh with _ h66
  exact absurd h66 (by decide)

theorem do_end {base g : Nat} {F : Nat → Prop} {t : ByteArray} {ver : Int} {us : List S31} {x : S31} {w w1 w2 w3 : World} {vu vr v' : Value}
    (lg : g < w.heap.size) (H1 : w.ownsRow base 31 3 vu us.length (cel us)) (H4 : F g) (H5 : ∀ k, vu.ownBlock = some k → F k) (H7 : ∀ k, F k → base ≤ k ∧ k < w.heap.size)
    (B1 : Below w.heap.size w w1) (D2 : Did w1.drew w2 (fun k => k = g)) (D3 : Did w2 w3 (fun k => k = g ∨ vu.ownBlock = some k))
    (P1 : w3.heap[g]? = some (.cells ((#[.string t, .int .i64 ver, vu, vr] : Array Value).setIfInBounds 2 v') 66 (0, 0))) (P2 : w3.ownsRow base 31 3 v' (us.length + 1) (cel (us ++ [x])))
    (P3 : ∀ k, v'.ownBlock = some k → vu.ownBlock = some k ∨ w2.heap.size ≤ k) :
    To base g F t ver (us ++ [x]) [] w (w3.setCell ⟨g, 3, none⟩ (.slice none 0 0)) := by
  have hg : base ≤ g := (H7 g H4).1
  have d1 : Did w w1.drew F := Did.drew (Did.of_below B1 F)
  have d2 : Did w w2 F := d1.then_ D2 (fun k hk => by subst hk; exact .inl H4)
  have d3 : Did w w3 F := d2.then_ D3 (fun k hk => hk.elim (fun h => by subst h; exact .inl H4) (fun h => .inl (H5 k h)))
  have d4 := d3.setCell (p := ⟨g, 3, none⟩) (.inl H4) (.slice none 0 0)
  have hb : (w3.setCell ⟨g, 3, none⟩ (.slice none 0 0)).heap[g]? = some (.cells #[.string t, .int .i64 ver, v', .slice none 0 0] 66 (0, 0)) := blk_put P1 3 _ rfl
  have hne : some g ≠ v'.ownBlock := own_ne66 P2 P1
  have hsz : (w3.setCell ⟨g, 3, none⟩ (.slice none 0 0)).heap.size = w3.heap.size := by simp [World.setCell]
  refine ⟨fun k => k = g ∨ v'.ownBlock = some k, ⟨v', .slice none 0 0, hb, ?_, ⟨by simp [cel], .inl ⟨rfl, rfl⟩⟩, fun k _ h => by simp [Value.ownBlock] at h, .inl rfl, fun k hk => .inr hk, fun k h => by simp [Value.ownBlock] at h, ?_⟩, ?_, d4⟩
  · rw [List.length_append, List.length_singleton]
    exact own_move P2 (fun k hk => Below.heap_setCell w3 _ _ _ (fun h => hne (by rw [hk]; exact congrArg some h.symm)))
  · rintro k (rfl | hk)
    · rw [hsz]
      exact ⟨hg, Nat.lt_of_lt_of_le lg d3.size⟩
    · rw [hsz]
      exact ⟨own_base P2 k hk, own_lt P2 k hk⟩
  · rintro k (rfl | hk)
    · exact .inl H4
    · rcases P3 k hk with h | h
      · exact .inl (H5 k h)
      · right
        have := d2.size
        omega

/-- Do's outcome: the error, and where the history stands. -/
def doErr (t : ByteArray) (e : S31) : Int := if fits t.size e then if (ap t e).size > 4000 then 11 else 0 else 2

set_option maxRecDepth 100000 in
set_option maxHeartbeats 3200000 in
theorem do_ok (base g : Nat) (F : Nat → Prop) (t : ByteArray) (ver : Int) (us rs : List S31) (e : S31) (w : World)
    (h : Hist base w g F t ver us rs) (hf : fits t.size e) (hsz : (ap t e).size ≤ 4000) (ht : t.size ≤ 1099511627776) (he : e.f2.size ≤ 1099511627776) (hv0 : 0 ≤ ver) (hv1 : ver ≤ 1000000) (hus : us.length ≤ 1000000) :
    Calls Try.prog 28 #[.pointer (some ⟨g, 0, none⟩), .agg #[.int .i64 e.f0, .int .i64 e.f1, .string e.f2]] w fun r w' => r = .returned (.int .i64 0) ∧ To base g F (ap t e) (ver + 1) (us ++ [inv t e]) [] w w' := by
  obtain ⟨vu, vr, hb, h1, h2, h3, h4, h5, h6, h7⟩ := h
  have hc : w.cell? ⟨g, 0, none⟩ = some (.string t) := (blk_cell hb 0).trans rfl
  have lg := blk_lt hb
  have HB := Aside0.mk hb
  have HF := Aside0.mk hf
  have H1 := Aside0.mk h1
  have H2 := Aside0.mk h2
  have H3 := Aside0.mk h3
  have H4 := Aside0.mk h4
  have H5 := Aside0.mk h5
  have H6 := Aside0.mk h6
  have H7 := Aside0.mk h7
  have hgt : decide ((4000 : Int) < ((ap t e).size : Int)) = false := decide_eq_false (by omega)
  clear hb hf h1 h2 h3 h4 h5 h6 h7
  go_enter Try.func28, Try.ntmps28
  go_wp2_with fail
  have hx0 : (w.alloc (.cells #[.int .i64 e.f0, .int .i64 e.f1, .string e.f2] 31)).heap[w.heap.size]? = some (.cells #[.int .i64 e.f0, .int .i64 e.f1, .string e.f2] 31 (0, 0)) := by simpa using heap_alloc_new w _
  have hx2 := blk_alloc HB.out (.cells #[.int .i64 e.f0, .int .i64 e.f1, .string e.f2] 31)
  have hx4 : Below w.heap.size w (w.alloc (.cells #[.int .i64 e.f0, .int .i64 e.f1, .string e.f2] 31)) := (Below.refl _ _).alloc (Nat.le_refl _) _
  have hx5 : (w.alloc (.cells #[.int .i64 e.f0, .int .i64 e.f1, .string e.f2] 31)).heap.size = w.heap.size + 1 := by simp
  generalize w.alloc (.cells #[.int .i64 e.f0, .int .i64 e.f1, .string e.f2] 31) = W at hx0 hx2 hx4 hx5 ⊢
  have c0 : W.cell? ⟨g, 0, none⟩ = some (.string t) := (blk_cell hx2 0).trans rfl
  have c1 : W.cell? ⟨w.heap.size, 0, none⟩ = some (.int .i64 e.f0) := (blk_cell hx0 0).trans rfl
  have c2 : W.cell? ⟨w.heap.size, 1, none⟩ = some (.int .i64 e.f1) := (blk_cell hx0 1).trans rfl
  have c3 : W.cell? ⟨w.heap.size, 2, none⟩ = some (.string e.f2) := (blk_cell hx0 2).trans rfl
  have X0 := Aside0.mk hx0
  have X2 := Aside0.mk hx2
  have X4 := Aside0.mk hx4
  have X5 := Aside0.mk hx5
  clear hx0 hx2 hx4 hx5
  go_region_held3 (fun w' => w'.cell? ⟨g, 0, none⟩ = some (.string t) ∧ w'.cell? ⟨w.heap.size, 0, none⟩ = some (.int .i64 e.f0) ∧ w'.cell? ⟨w.heap.size, 1, none⟩ = some (.int .i64 e.f1) ∧ w'.cell? ⟨w.heap.size, 2, none⟩ = some (.string e.f2))
    (first | exact ⟨k0, k1, k2, k3⟩ | go_keep)
    (first | (go_at_call 34; (with_reducible refine (apply_fits t e W.drew HF.out ht he).mono ?_); rintro r w1 ⟨rfl, hbel⟩; have hB1 : Aside0 (Below W.heap.size W w1) := ⟨belowX ((Below.refl _ _).drew) hbel⟩; clear hbel; have k0 := (hB1.out.cell (p := ⟨g, 0, none⟩) (blk_lt X2.out)).trans c0; have k1 := (hB1.out.cell (p := ⟨w.heap.size, 0, none⟩) (blk_lt X0.out)).trans c1; have k2 := (hB1.out.cell (p := ⟨w.heap.size, 1, none⟩) (blk_lt X0.out)).trans c2; have k3 := (hB1.out.cell (p := ⟨w.heap.size, 2, none⟩) (blk_lt X0.out)).trans c3))
  go_wp2_with fail
  have B1 : Aside0 (Below w.heap.size w w1) := ⟨X4.out.trans (hB1.out.mono (by have := X5.out; omega))⟩
  have V0 : Aside0 (w1.heap[w.heap.size]? = some (.cells #[.int .i64 e.f0, .int .i64 e.f1, .string e.f2] 31 (0, 0))) := ⟨(hB1.out.block _ (blk_lt X0.out)).trans X0.out⟩
  have V2 : Aside0 (w1.heap[g]? = some (.cells #[.string t, .int .i64 ver, vu, vr] 66 (0, 0))) := ⟨blk_below HB.out B1.out⟩
  have V3 : Aside0 (w1.ownsRow base 31 3 vu us.length (cel us)) := ⟨own_move H1.out (fun k hk => B1.out.block k (H7.out k (H5.out k hk)).2)⟩
  have V4 : Aside0 (some g ≠ vu.ownBlock) := ⟨own_ne66 H1.out HB.out⟩
  have V5 : Aside0 (some w.heap.size ≠ vu.ownBlock) := ⟨fun h => by have := (H7.out _ (H5.out _ h.symm)).2; omega⟩
  have V6 : Aside0 (base ≤ w.heap.size) := ⟨by have := H7.out g H4.out; omega⟩
  clear hB1 X0 X2 X4 X5 c0 c1 c2 c3 k0
  go_region_held3 (fun w' => w'.cell? ⟨w.heap.size, 0, none⟩ = some (.int .i64 e.f0) ∧ w'.cell? ⟨w.heap.size, 1, none⟩ = some (.int .i64 e.f1) ∧ w'.cell? ⟨w.heap.size, 2, none⟩ = some (.string e.f2))
    (first | exact ⟨m1, m2, m3⟩ | exact ⟨l1, l2, l3⟩ | go_keep)
    (first | (go_at_call 49; (with_reducible refine (step_any g t ver vu vr e w1.drew (blk_drew V2.out) HF.out ht he hv0 hv1).mono ?_); rintro r w2 ⟨rfl, hs1, hs2⟩; have S1 := Aside0.mk hs1; have S2 := Aside0.mk hs2; have S0 : Aside0 (w2.heap[w.heap.size]? = some (.cells #[.int .i64 e.f0, .int .i64 e.f1, .string e.f2] 31 (0, 0))) := ⟨(hs2.block (blk_lt V0.out) (by omega)).trans V0.out⟩; have S3 : Aside0 (w2.ownsRow base 31 3 vu us.length (cel us)) := ⟨own_move V3.out (fun k hk => hs2.block (own_lt V3.out k hk) (fun h => V4.out (by rw [← h]; exact hk.symm)))⟩; clear hs1 hs2; have l1 := (blk_cell S0.out 0).trans rfl; have l2 := (blk_cell S0.out 1).trans rfl; have l3 := (blk_cell S0.out 2).trans rfl) | (go_at_call 48; (with_reducible refine (push_any base g 2 _ vu us (inv t e) w2 S1.out rfl S3.out (by have := V6.out; have := B1.out.size; have q := S2.out.size; have q2 : w1.drew.heap.size = w1.heap.size := rfl; omega) hus).mono ?_); rintro r w3 ⟨rfl, v', hp1, hp2, hp3, hp4⟩; have P1 := Aside0.mk hp1; have P2 := Aside0.mk hp2; have P3 := Aside0.mk hp3; have P4 := Aside0.mk hp4; have P0 : Aside0 (w3.heap[w.heap.size]? = some (.cells #[.int .i64 e.f0, .int .i64 e.f1, .string e.f2] 31 (0, 0))) := ⟨(hp4.block (blk_lt S0.out) (fun h => h.elim (by omega) (fun h => V5.out h.symm))).trans S0.out⟩; clear hp1 hp2 hp3 hp4; have m1 := (blk_cell P0.out 0).trans rfl; have m2 := (blk_cell P0.out 1).trans rfl; have m3 := (blk_cell P0.out 2).trans rfl))
  have r3 : w3.cell? ⟨g, 3, none⟩ = some vr := (blk_cell P1.out 3).trans rfl
  have f3 := blk_frozen P1.out 3
  go_wp2
  go_ret
  exact ⟨rfl, do_end lg H1.out H4.out H5.out H7.out B1.out S2.out P4.out P1.out P2.out P3.out⟩

set_option maxRecDepth 100000 in
set_option maxHeartbeats 3200000 in
theorem do_not (g : Nat) (t : ByteArray) (cs : Array Value) (e : S31) (w : World) (hb : w.heap[g]? = some (.cells cs 66 (0, 0))) (hcs : cs[0]? = some (.string t))
    (hf : ¬ fits t.size e) (ht : t.size ≤ 1099511627776) (he : e.f2.size ≤ 1099511627776) :
    Calls Try.prog 28 #[.pointer (some ⟨g, 0, none⟩), .agg #[.int .i64 e.f0, .int .i64 e.f1, .string e.f2]] w fun r w' => r = .returned (.int .i64 2) ∧ Below w.heap.size w w' := by
  have hc : w.cell? ⟨g, 0, none⟩ = some (.string t) := (blk_cell hb 0).trans hcs
  have lg := blk_lt hb
  have HB := Aside0.mk hb
  have HF := Aside0.mk hf
  have HC := Aside0.mk hcs
  clear hb hf hcs
  go_enter Try.func28, Try.ntmps28
  go_wp2_with fail
  have hx0 : (w.alloc (.cells #[.int .i64 e.f0, .int .i64 e.f1, .string e.f2] 31)).heap[w.heap.size]? = some (.cells #[.int .i64 e.f0, .int .i64 e.f1, .string e.f2] 31 (0, 0)) := by simpa using heap_alloc_new w _
  have hx2 := blk_alloc HB.out (.cells #[.int .i64 e.f0, .int .i64 e.f1, .string e.f2] 31)
  have hx4 : Below w.heap.size w (w.alloc (.cells #[.int .i64 e.f0, .int .i64 e.f1, .string e.f2] 31)) := (Below.refl _ _).alloc (Nat.le_refl _) _
  generalize w.alloc (.cells #[.int .i64 e.f0, .int .i64 e.f1, .string e.f2] 31) = W at hx0 hx2 hx4 ⊢
  have c0 : W.cell? ⟨g, 0, none⟩ = some (.string t) := (blk_cell hx2 0).trans HC.out
  have c1 : W.cell? ⟨w.heap.size, 0, none⟩ = some (.int .i64 e.f0) := (blk_cell hx0 0).trans rfl
  have c2 : W.cell? ⟨w.heap.size, 1, none⟩ = some (.int .i64 e.f1) := (blk_cell hx0 1).trans rfl
  have c3 : W.cell? ⟨w.heap.size, 2, none⟩ = some (.string e.f2) := (blk_cell hx0 2).trans rfl
  have X0 := Aside0.mk hx0
  have X2 := Aside0.mk hx2
  have X4 := Aside0.mk hx4
  clear hx0 hx2 hx4
  go_region_held3 (fun w' => w'.cell? ⟨g, 0, none⟩ = some (.string t) ∧ w'.cell? ⟨w.heap.size, 0, none⟩ = some (.int .i64 e.f0) ∧ w'.cell? ⟨w.heap.size, 1, none⟩ = some (.int .i64 e.f1) ∧ w'.cell? ⟨w.heap.size, 2, none⟩ = some (.string e.f2))
    (first | exact ⟨k0, k1, k2, k3⟩ | go_keep)
    (first | (go_at_call 34; (with_reducible refine (apply_not t e W.drew HF.out ht he).mono ?_); rintro r w1 ⟨rfl, hbel⟩; have hB1 : Aside0 (Below W.heap.size W w1) := ⟨belowX ((Below.refl _ _).drew) hbel⟩; clear hbel; have k0 := (hB1.out.cell (p := ⟨g, 0, none⟩) (blk_lt X2.out)).trans c0; have k1 := (hB1.out.cell (p := ⟨w.heap.size, 0, none⟩) (blk_lt X0.out)).trans c1; have k2 := (hB1.out.cell (p := ⟨w.heap.size, 1, none⟩) (blk_lt X0.out)).trans c2; have k3 := (hB1.out.cell (p := ⟨w.heap.size, 2, none⟩) (blk_lt X0.out)).trans c3))
  go_wp2
  go_ret
  exact ⟨rfl, X4.out.trans (hB1.out.mono X4.out.size)⟩

set_option maxRecDepth 100000 in
set_option maxHeartbeats 3200000 in
theorem do_limit (g : Nat) (t : ByteArray) (cs : Array Value) (e : S31) (w : World) (hb : w.heap[g]? = some (.cells cs 66 (0, 0))) (hcs : cs[0]? = some (.string t))
    (hf : fits t.size e) (hsz : 4000 < (ap t e).size) (ht : t.size ≤ 1099511627776) (he : e.f2.size ≤ 1099511627776) :
    Calls Try.prog 28 #[.pointer (some ⟨g, 0, none⟩), .agg #[.int .i64 e.f0, .int .i64 e.f1, .string e.f2]] w fun r w' => r = .returned (.int .i64 11) ∧ Below w.heap.size w w' := by
  have hc : w.cell? ⟨g, 0, none⟩ = some (.string t) := (blk_cell hb 0).trans hcs
  have lg := blk_lt hb
  have HB := Aside0.mk hb
  have HF := Aside0.mk hf
  have HC := Aside0.mk hcs
  have hgt : decide ((4000 : Int) < ((ap t e).size : Int)) = true := decide_eq_true (by omega)
  clear hb hf hcs
  go_enter Try.func28, Try.ntmps28
  go_wp2_with fail
  have hx0 : (w.alloc (.cells #[.int .i64 e.f0, .int .i64 e.f1, .string e.f2] 31)).heap[w.heap.size]? = some (.cells #[.int .i64 e.f0, .int .i64 e.f1, .string e.f2] 31 (0, 0)) := by simpa using heap_alloc_new w _
  have hx2 := blk_alloc HB.out (.cells #[.int .i64 e.f0, .int .i64 e.f1, .string e.f2] 31)
  have hx4 : Below w.heap.size w (w.alloc (.cells #[.int .i64 e.f0, .int .i64 e.f1, .string e.f2] 31)) := (Below.refl _ _).alloc (Nat.le_refl _) _
  generalize w.alloc (.cells #[.int .i64 e.f0, .int .i64 e.f1, .string e.f2] 31) = W at hx0 hx2 hx4 ⊢
  have c0 : W.cell? ⟨g, 0, none⟩ = some (.string t) := (blk_cell hx2 0).trans HC.out
  have c1 : W.cell? ⟨w.heap.size, 0, none⟩ = some (.int .i64 e.f0) := (blk_cell hx0 0).trans rfl
  have c2 : W.cell? ⟨w.heap.size, 1, none⟩ = some (.int .i64 e.f1) := (blk_cell hx0 1).trans rfl
  have c3 : W.cell? ⟨w.heap.size, 2, none⟩ = some (.string e.f2) := (blk_cell hx0 2).trans rfl
  have X0 := Aside0.mk hx0
  have X2 := Aside0.mk hx2
  have X4 := Aside0.mk hx4
  clear hx0 hx2 hx4
  go_region_held3 (fun w' => w'.cell? ⟨g, 0, none⟩ = some (.string t) ∧ w'.cell? ⟨w.heap.size, 0, none⟩ = some (.int .i64 e.f0) ∧ w'.cell? ⟨w.heap.size, 1, none⟩ = some (.int .i64 e.f1) ∧ w'.cell? ⟨w.heap.size, 2, none⟩ = some (.string e.f2))
    (first | exact ⟨k0, k1, k2, k3⟩ | go_keep)
    (first | (go_at_call 34; (with_reducible refine (apply_fits t e W.drew HF.out ht he).mono ?_); rintro r w1 ⟨rfl, hbel⟩; have hB1 : Aside0 (Below W.heap.size W w1) := ⟨belowX ((Below.refl _ _).drew) hbel⟩; clear hbel; have k0 := (hB1.out.cell (p := ⟨g, 0, none⟩) (blk_lt X2.out)).trans c0; have k1 := (hB1.out.cell (p := ⟨w.heap.size, 0, none⟩) (blk_lt X0.out)).trans c1; have k2 := (hB1.out.cell (p := ⟨w.heap.size, 1, none⟩) (blk_lt X0.out)).trans c2; have k3 := (hB1.out.cell (p := ⟨w.heap.size, 2, none⟩) (blk_lt X0.out)).trans c3))
  go_wp2
  go_ret
  exact ⟨rfl, X4.out.trans (hB1.out.mono X4.out.size)⟩

/-- A new history. -/
theorem new_any (t : ByteArray) (w : World) :
    Calls Try.prog 20 #[.string t] w fun r w' => r = .returned (.pointer (some ⟨w.heap.size, 0, none⟩)) ∧ Hist w.heap.size w' w.heap.size (fun k => k = w.heap.size) t 0 [] [] ∧ Below w.heap.size w w' := by
  go_enter Try.func20, Try.ntmps20
  go_wp2
  go_ret
  refine ⟨rfl, ⟨.slice none 0 0, .slice none 0 0, by simpa using heap_alloc_new w _, ⟨rfl, .inl ⟨rfl, rfl⟩⟩, ⟨rfl, .inl ⟨rfl, rfl⟩⟩, fun k h => by simp [Value.ownBlock] at h, rfl, fun k h => by simp [Value.ownBlock] at h, fun k h => by simp [Value.ownBlock] at h, ?_⟩, (Below.refl _ _).alloc (Nat.le_refl _) _⟩
  rintro k rfl
  exact ⟨Nat.le_refl _, by simp⟩
theorem text_any {base g : Nat} {F : Nat → Prop} {t : ByteArray} {ver : Int} {us rs : List S31} (w : World) (h : Hist base w g F t ver us rs) :
    Calls Try.prog 24 #[.pointer (some ⟨g, 0, none⟩)] w fun r w' => r = .returned (.string t) ∧ w = w' := by
  obtain ⟨vu, vr, hb, _⟩ := h
  have hc : w.cell? ⟨g, 0, none⟩ = some (.string t) := (blk_cell hb 0).trans rfl
  clear hb
  go_enter Try.func24, Try.ntmps24
  go_wp2
  go_ret
  exact ⟨rfl, rfl⟩
theorem version_any {base g : Nat} {F : Nat → Prop} {t : ByteArray} {ver : Int} {us rs : List S31} (w : World) (h : Hist base w g F t ver us rs) :
    Calls Try.prog 26 #[.pointer (some ⟨g, 0, none⟩)] w fun r w' => r = .returned (.int .i64 ver) ∧ w = w' := by
  obtain ⟨vu, vr, hb, _⟩ := h
  have hc : w.cell? ⟨g, 1, none⟩ = some (.int .i64 ver) := (blk_cell hb 1).trans rfl
  clear hb
  go_enter Try.func26, Try.ntmps26
  go_wp2
  go_ret
  exact ⟨rfl, rfl⟩
theorem depth_any {base g : Nat} {F : Nat → Prop} {t : ByteArray} {ver : Int} {us rs : List S31} (w : World) (h : Hist base w g F t ver us rs) :
    Calls Try.prog 23 #[.pointer (some ⟨g, 0, none⟩)] w fun r w' => r = .returned (.tuple #[.int .i64 (us.length : Int), .int .i64 (rs.length : Int)]) ∧ Below w.heap.size w w' := by
  obtain ⟨vu, vr, hb, h1, h2, _⟩ := h
  obtain ⟨A, c, rfl, _, _⟩ := own_slice h1
  obtain ⟨A2, c2, rfl, _, _⟩ := own_slice h2
  have hc : w.cell? ⟨g, 2, none⟩ = some (.slice A us.length c) := (blk_cell hb 2).trans rfl
  have hc2 : w.cell? ⟨g, 3, none⟩ = some (.slice A2 rs.length c2) := (blk_cell hb 3).trans rfl
  clear hb h1 h2
  go_enter Try.func23, Try.ntmps23
  go_wp2
  go_region
  all_goals go_wp2
  all_goals go_ret2
  all_goals exact ⟨rfl, by repeat (first | exact Below.refl _ _ | apply Below.drew)⟩
end Go.Proofs.Ytnmgcghbfnpofaa.Hist
