/- The arguments of the laws, opened: an edit, a call, a slice of edits, a slice of calls, as plain lists of structures, with the sizes that the rows grant. -/
import Derived.Test.YtnmgcghbfnpofaaA0
import Derived.Test.YtnmgcghbfnpofaaRows
import Derived.WalkKit
import Derived.ProofKit
import Derived.OpenShut
import Derived.ShutString
import Derived.ChangeOld
import Derived.Below
import Derived.SizedLaws
import Derived.Deep.Slices
import Derived.Lib.SmallJoins
namespace Go.Proofs.Ytnmgcghbfnpofaa.Open
open Go.RowKit Go.ChangeShapes Go.WideShapes Go.ChangeAt Go.Deep
open Go.ChangeMaps (open_string shut_string)
open Go.Proofs.Ytnmgcghbfnpofaa.PAll Go.Proofs.YtnmgcghbfnpofaaW.PrintWords
set_option linter.unusedVariables false

theorem own : ownKnob Try.prog.godebug = none := by kernel_rfl
theorem laidOut : laidOutB Try.prog = true := by kernel_rfl
theorem cells31 : Try.prog.cellsOf 31 = 3 := by kernel_rfl
theorem cells36 : Try.prog.cellsOf 36 = 4 := by kernel_rfl
theorem cells3 : Try.prog.cellsOf 3 = 1 := by kernel_rfl
theorem cells9 : Try.prog.cellsOf 9 = 1 := by kernel_rfl
theorem cells5 : Try.prog.cellsOf 5 = 1 := by kernel_rfl
theorem bytes31 : Try.prog.bytesOf 31 = 32 := by kernel_rfl
theorem bytes36 : Try.prog.bytesOf 36 = 40 := by kernel_rfl

/-- What is known of an edit that came in. -/
def OkE (e : S31) : Prop := (Lit.int .i64 e.f0).wf = true ∧ (Lit.int .i64 e.f1).wf = true ∧ e.f2.size ≤ 140737488351232
/-- What is known of a call that came in. -/
def OkS (s : S36) : Prop := (Lit.int .u8 s.f0).wf = true ∧ OkE s.f1

section
variable {H : Type} {enc : TypeId × Value → H} {W : World} {base : Nat} {spare : Nat → Bool} {held : Bool}

theorem trod_edit {n : Nat} {cs : List Value} {x : DataW H × List MemPlace} (h : DataW.trod enc Try.prog W base spare held n 31 cs = some x) (hw : ∀ m ∈ x.1.weights Try.prog 31, m ≤ 140737488351232) :
    ∃ e : S31, cs = [.int .i64 e.f0, .int .i64 e.f1, .string e.f2] ∧ OkE e := by
  obtain ⟨xs, n', rfl, rfl, hl, hxl, hf⟩ := DataW.trod_struct Try.underlying31 h
  rw [cells31] at hl
  match cs, hl with
  | [c0, c1, c2], _ =>
    match xs, hxl with
    | [y0, y1, y2], _ =>
      have h0 : DataW.trod enc Try.prog W base spare held n' 3 [c0] = some y0 := by simpa [cells3] using hf 0 _ rfl
      have h1 : DataW.trod enc Try.prog W base spare held n' 3 [c1] = some y1 := by simpa [cells3] using hf 1 _ rfl
      have h2 : DataW.trod enc Try.prog W base spare held n' 9 [c2] = some y2 := by simpa [cells9] using hf 2 _ rfl
      obtain ⟨a, ha, rfl, wa⟩ := DataW.trod_int Try.underlying3 h0
      obtain ⟨b, hb, rfl, wb⟩ := DataW.trod_int Try.underlying3 h1
      obtain ⟨s, hs, rfl, ws⟩ := DataW.trod_string Try.underlying9 h2
      simp only [List.cons.injEq, and_true] at ha hb hs
      subst ha hb hs
      refine ⟨⟨a, b, s⟩, rfl, wa, wb, ?_⟩
      have := hw s.data.toList.length (by simp [DataW.weights, DataW.weightsEach, Try.underlying31])
      rw [Array.length_toList] at this
      exact this

theorem trod_step {n : Nat} {cs : List Value} {x : DataW H × List MemPlace} (h : DataW.trod enc Try.prog W base spare held n 36 cs = some x) (hw : ∀ m ∈ x.1.weights Try.prog 36, m ≤ 140737488351232) :
    ∃ s : S36, cs = [.int .u8 s.f0, .int .i64 s.f1.f0, .int .i64 s.f1.f1, .string s.f1.f2] ∧ OkS s := by
  obtain ⟨xs, n', rfl, rfl, hl, hxl, hf⟩ := DataW.trod_struct Try.underlying36 h
  rw [cells36] at hl
  match cs, hl with
  | [c0, c1, c2, c3], _ =>
    match xs, hxl with
    | [y0, y1], _ =>
      have h0 : DataW.trod enc Try.prog W base spare held n' 5 [c0] = some y0 := by simpa [cells5] using hf 0 _ rfl
      have h1 : DataW.trod enc Try.prog W base spare held n' 31 [c1, c2, c3] = some y1 := by simpa [cells31] using hf 1 _ rfl
      obtain ⟨a, ha, rfl, wa⟩ := DataW.trod_int Try.underlying5 h0
      obtain ⟨e, he, oe⟩ := trod_edit h1 (fun m hm => hw m (by
        simp only [List.map_cons, List.map_nil, DataW.weights, Try.underlying36, List.map_cons, List.map_nil, DataW.weightsEach, List.mem_append, List.not_mem_nil, or_false, false_or]
        exact hm))
      simp only [List.cons.injEq, and_true] at ha he
      obtain ⟨rfl, rfl, rfl⟩ := he
      subst ha
      exact ⟨⟨a, e⟩, rfl, wa, oe⟩

theorem mem_weightsAll {P : Program} {e : TypeId} : ∀ {ds : List (DataW H)} {d : DataW H} {m : Nat}, d ∈ ds → m ∈ d.weights P e → m ∈ DataW.weightsAll P e ds
  | d0 :: r, d, m, hd, hm => by
    simp only [DataW.weightsAll, List.mem_append]
    rcases List.mem_cons.1 hd with rfl | hd
    · exact .inl hm
    · exact .inr (mem_weightsAll hd hm)

theorem exists_list {α : Type} {P : Nat → α → Prop} : ∀ n : Nat, (∀ i, i < n → ∃ a, P i a) → ∃ l : List α, l.length = n ∧ ∀ i a, l[i]? = some a → P i a
  | 0, _ => ⟨[], rfl, fun i a h => by simp at h⟩
  | n + 1, h => by
    obtain ⟨l, hl, hp⟩ := exists_list n (fun i hi => h i (by omega))
    obtain ⟨a, ha⟩ := h n (by omega)
    refine ⟨l ++ [a], by simp [hl], fun i b hb => ?_⟩
    rcases Nat.lt_or_ge i n with hi | hi
    · rw [List.getElem?_append_left (by omega)] at hb
      exact hp i b hb
    · rw [List.getElem?_append_right (by omega)] at hb
      have hi' : i - l.length = 0 := by
        rcases Nat.eq_zero_or_pos (i - l.length) with h0 | h0
        · exact h0
        · rw [List.getElem?_eq_none (by simp; omega)] at hb
          cases hb
      rw [hi'] at hb
      have : i = n := by omega
      subst this
      simp at hb
      subst hb
      exact ha

/-- A slice that came in: any element type whose elements open. -/
theorem open_row {α : Type} {K : α → List Value → Prop} {Ok : α → Prop} {t e : TypeId} {sz : Nat} (hu : Try.prog.underlying t = some (.slice e)) (hC : Try.prog.cellsOf e = sz) (hB : 0 < Try.prog.bytesOf e) (hK : ∀ x cs, K x cs → cs.length = sz)
    (hopen : ∀ {n : Nat} {cs : List Value} {x : DataW H × List MemPlace}, DataW.trod enc Try.prog W base spare held n e cs = some x → (∀ m ∈ x.1.weights Try.prog e, m ≤ 140737488351232) → ∃ a : α, K a cs ∧ Ok a)
    {A : Option Addr} {len cap : Nat} {d : DataW H} {ps : List MemPlace} {ts : List TypeId} {ds : List (DataW H)} {j : Nat}
    (hsz : (DataW.weightsEach Try.prog ts ds).all (· ≤ reachBytes) = true) (ht : ts[j]? = some t) (hd : ds[j]? = some d)
    (h : DataW.Trod enc Try.prog W base spare held t (.slice A len cap) d ps) :
    ∃ l : List α, l.length = len ∧ len ≤ cap ∧ ReadsRow K sz W A len l ∧ (∀ e ∈ l, Ok e) ∧ len * Try.prog.bytesOf e ≤ 140737488351232 := by
  have hwt : ∀ m ∈ d.weights Try.prog t, m ≤ 140737488351232 := fun m hm => by
    have := List.all_eq_true.1 hsz _ (DataW.weights_mem_each ht hd m hm)
    exact of_decide_eq_true this
  obtain ⟨fuel, hf⟩ := h
  rcases open_slice hu hf with ⟨hcs, hx⟩ | ⟨a, l', c', m, n, D, Pl, hcs, _, hl, hm, hmm, hx, hi⟩
  · simp [Value.cells] at hcs
    obtain ⟨rfl, rfl, rfl⟩ := hcs
    exact ⟨[], rfl, Nat.le_refl _, ⟨rfl, by omega, fun h => absurd h (by omega)⟩, by simp, by omega⟩
  · simp [Value.cells] at hcs
    obtain ⟨rfl, rfl, rfl⟩ := hcs
    obtain ⟨hx, _⟩ := Prod.mk.inj hx
    subst hx
    rw [hC] at hi
    have hlm : len ≤ m := by rw [hmm]; split <;> omega
    have hlen : len * Try.prog.bytesOf e ≤ 140737488351232 := by
      have := hwt ((((List.range len).map D).length + ((List.range (m - len)).map fun j => D (len + j)).length) * Try.prog.bytesOf e) (by simp only [DataW.weights, hu, List.mem_cons, true_or])
      simp only [List.length_map, List.length_range] at this
      exact Nat.le_trans (Nat.mul_le_mul_right _ (by omega)) this
    have hlen1 : len ≤ 140737488351232 := Nat.le_trans (Nat.le_mul_of_pos_right _ hB) hlen
    have hel : ∀ i, i < len → ∃ x : α, Ok x ∧ ∃ cs', K x cs' ∧ W.cells? base (a.add (i * sz)) sz = some cs' := by
      intro i hil
      obtain ⟨cs', hc, htr⟩ := hi i (by omega)
      obtain ⟨x, hk, ok⟩ := hopen htr (fun k hk => hwt k (by
        simp only [DataW.weights, hu, List.mem_cons, List.mem_append]
        exact .inr (.inl (mem_weightsAll (List.mem_map.2 ⟨i, List.mem_range.2 hil, rfl⟩) hk))))
      exact ⟨x, ok, cs', hk, hc⟩
    obtain ⟨l, hll, hlp⟩ := exists_list len hel
    refine ⟨l, hll, hl, ⟨hll, by omega, fun h0 => ⟨a, rfl, fun j p hj => ?_⟩⟩, fun x hx => ?_, hlen⟩
    · obtain ⟨_, cs', hk, hc⟩ := hlp j p hj
      obtain ⟨_, hcl, hat⟩ := World.cells?_some hc
      refine ⟨cs', hcl, hk, fun i u hu => ?_⟩
      rw [← Go.Deep.add_add, hat i (by have := (List.getElem?_eq_some_iff.1 hu).1; omega), hu]
    · obtain ⟨i, hi', rfl⟩ := List.getElem_of_mem hx
      exact (hlp i _ (List.getElem?_eq_getElem hi')).1

/-- A slice of edits that came in. -/
theorem open_edits {A : Option Addr} {len cap : Nat} {d : DataW H} {ps : List MemPlace} {ts : List TypeId} {ds : List (DataW H)} {j : Nat}
    (hsz : (DataW.weightsEach Try.prog ts ds).all (· ≤ reachBytes) = true) (ht : ts[j]? = some 27) (hd : ds[j]? = some d)
    (h : DataW.Trod enc Try.prog W base spare held 27 (.slice A len cap) d ps) :
    ∃ l : List S31, l.length = len ∧ len ≤ cap ∧ Kd.C k31 W A len l ∧ (∀ e ∈ l, OkE e) ∧ len * 32 ≤ 140737488351232 := by
  have := open_row (K := k31.K W) (Ok := OkE) Try.underlying27 cells31 (by rw [bytes31]; decide) (fun _ _ h => k31.K_len h) (fun h hw => by
    obtain ⟨e, rfl, ok⟩ := trod_edit h hw
    exact ⟨e, k31_mk W e, ok⟩) hsz ht hd h
  rw [bytes31] at this
  exact this

/-- A slice of calls that came in. -/
theorem open_steps {A : Option Addr} {len cap : Nat} {d : DataW H} {ps : List MemPlace} {ts : List TypeId} {ds : List (DataW H)} {j : Nat}
    (hsz : (DataW.weightsEach Try.prog ts ds).all (· ≤ reachBytes) = true) (ht : ts[j]? = some 22) (hd : ds[j]? = some d)
    (h : DataW.Trod enc Try.prog W base spare held 22 (.slice A len cap) d ps) :
    ∃ l : List S36, l.length = len ∧ len ≤ cap ∧ Kd.C k36 W A len l ∧ (∀ e ∈ l, OkS e) ∧ len * 40 ≤ 140737488351232 := by
  have := open_row (K := k36.K W) (Ok := OkS) Try.underlying22 cells36 (by rw [bytes36]; decide) (fun _ _ h => k36.K_len h) (fun h hw => by
    obtain ⟨e, rfl, ok⟩ := trod_step h hw
    exact ⟨e, k36_mk W e, ok⟩) hsz ht hd h
  rw [bytes36] at this
  exact this

/-- An edit that came in by value. -/
theorem open_edit {r : Reach} {b0 : Nat} {v : Value} {d : DataW H} {ps : List MemPlace} {ts : List TypeId} {ds : List (DataW H)} {j : Nat}
    (hsz : (DataW.weightsEach Try.prog ts ds).all (· ≤ reachBytes) = true) (ht : ts[j]? = some 31) (hd : ds[j]? = some d)
    (hv : Value.okWide Try.prog W r b0 31 v) (h : DataW.Trod enc Try.prog W base spare held 31 v d ps) :
    ∃ e : S31, v = .agg #[.int .i64 e.f0, .int .i64 e.f1, .string e.f2] ∧ OkE e := by
  have hwt : ∀ m ∈ d.weights Try.prog 31, m ≤ 140737488351232 := fun m hm => by
    have := List.all_eq_true.1 hsz _ (DataW.weights_mem_each ht hd m hm)
    exact of_decide_eq_true this
  obtain ⟨cs, rfl, hs⟩ := okWide_struct Try.underlying31 hv
  obtain ⟨fuel, hf⟩ := h
  obtain ⟨e, he, ok⟩ := trod_edit hf hwt
  refine ⟨e, ?_, ok⟩
  have : cs.toList = [.int .i64 e.f0, .int .i64 e.f1, .string e.f2] := he
  rw [← Array.toArray_toList (xs := cs), this]
end
end Go.Proofs.Ytnmgcghbfnpofaa.Open
