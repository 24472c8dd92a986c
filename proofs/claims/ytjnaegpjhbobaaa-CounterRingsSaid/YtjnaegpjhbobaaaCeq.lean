/- '==' on counters that are the same; slices of ints; counters that come in. -/
import Derived.Test.YtjnaegpjhbobaaaAccept
import Derived.Test.YtjnaegpjhbobaaaOpen
import Derived.ChangeKeysEq
import Derived.ChangeSlices
import Derived.ProofKit
import Derived.OpenShut
namespace Go.Proofs.Ytjnaegpjhbobaaa
open Go.RowKit
section
variable {P : Program}
theorem eqItems_refl (w : World) (d : Nat) {e : TypeId} {c : Nat} {xs : Array Value} : ∀ (is : List Nat), (∀ i ∈ is, ∃ v, (part e xs (i * c)).run P w = .ok v w ∧ (Op.equalIn d e v v).run P w = .ok true w) →
    (Op.eqItems d e c xs xs is).run P w = .ok true w
  | [], _ => by simp [Op.eqItems]
  | i :: is, h => by
    obtain ⟨v, h1, h2⟩ := h i (by simp)
    have := eqItems_refl w d is fun j hj => h j (by simp [hj])
    simp only [Op.eqItems, Sem.run_bind, h1, Result.andThen_ok, h2, Sem.run_ite, Bool.not_true, Bool.false_eq_true, if_false, this]
theorem eqFields_refl (w : World) (d : Nat) {xs : Array Value} : ∀ (fs : List Field), (∀ f ∈ fs, ∃ v, (part f.type xs f.offset).run P w = .ok v w ∧ (Op.equalIn d f.type v v).run P w = .ok true w) →
    (Op.eqFields d xs xs fs).run P w = .ok true w
  | [], _ => by simp [Op.eqFields]
  | f :: fs, h => by
    obtain ⟨v, h1, h2⟩ := h f (by simp)
    have := eqFields_refl w d fs fun g hg => h g (by simp [hg])
    by_cases hn : f.name ≠ "_"
    · simp only [Op.eqFields, hn, ne_eq, not_false_eq_true, if_true, Sem.run_bind, h1, Result.andThen_ok, h2, Bool.not_true, Bool.false_eq_true, if_false, this]
    · simp only [Op.eqFields, hn, if_false, this]
theorem isAgg_intC (w : World) {E : TypeId} {k : IntKind} (hE : P.underlying E = some (.int k)) : (isAgg E).run P w = .ok false w := by
  unfold isAgg; rw [Sem.run_bind, run_underlying hE w]; rfl
theorem part_int (w : World) {E : TypeId} {k : IntKind} (hE : P.underlying E = some (.int k)) {xs : Array Value} {off : Nat} {v : Value} (h : xs[off]? = some v) : (part E xs off).run P w = .ok v w := by
  simp [part, isAgg_intC w hE, h]
theorem part_arr (w : World) {E e : TypeId} {n : Nat} {i : TypeInfo} (hE : P.underlying E = some (.array n e)) (hi : P.info? E = some i) (xs : Array Value) (off : Nat) : (part E xs off).run P w = .ok (.agg (xs.extract off (off + P.cellsOf E))) w := by
  simp [part, isAgg, run_underlying hE, run_sizeOf w hi]
theorem part_struct (w : World) {E : TypeId} {fs : Array Field} {i : TypeInfo} (hE : P.underlying E = some (.struct fs)) (hi : P.info? E = some i) (xs : Array Value) (off : Nat) : (part E xs off).run P w = .ok (.agg (xs.extract off (off + P.cellsOf E))) w := by
  simp [part, isAgg, run_underlying hE, run_sizeOf w hi]
end
theorem fields26 : Try.prog.fieldsOf 26 = #[{ name := "Top", type := 3, offset := 0, embedded := false, tag := "", pkgPath := "", byteOffset := 0 }, { name := "Seen", type := 24, offset := 1, embedded := false, tag := "", pkgPath := "", byteOffset := 8 }] := by kernel_rfl
theorem fields29 : Try.prog.fieldsOf 29 = #[{ name := "Last", type := 3, offset := 0, embedded := false, tag := "", pkgPath := "", byteOffset := 0 }, { name := "Wins", type := 27, offset := 1, embedded := false, tag := "", pkgPath := "", byteOffset := 8 }] := by kernel_rfl
theorem eqWin (w : World) (d : Nat) (t s : Value) (ht : ∃ n, t = .int .i64 n) (hs : ∃ n, s = .int .u64 n) : (Op.equalIn (d + 2) 26 (.agg #[t, s]) (.agg #[t, s])).run Try.prog w = .ok true w := by
  obtain ⟨n, rfl⟩ := ht
  obtain ⟨m, rfl⟩ := hs
  rw [run_equalIn_struct w (d + 1) 26 _ _ (by kernel_rfl) (by kernel_rfl), fields26]
  refine eqFields_refl w (d + 1) _ fun f hf => ?_
  simp only [List.mem_cons, List.not_mem_nil, or_false] at hf
  rcases hf with rfl | rfl
  · exact ⟨.int .i64 n, part_int w Try.underlying3 rfl, (run_equalIn_int w d 3 .i64 .i64 n n Try.underlying3).trans (by simp)⟩
  · exact ⟨.int .u64 m, part_int w Try.underlying24 rfl, (run_equalIn_int w d 24 .u64 .u64 m m Try.underlying24).trans (by simp)⟩
theorem info_ex (t : TypeId) (h : (Try.prog.info? t).isSome = true) : ∃ i, Try.prog.info? t = some i := Option.isSome_iff_exists.1 h
theorem win_extract (a : Int) (l : List Win) (hl : l.length = 9) (i : Nat) (hi : i < 9) (x : Win) (h : l[i]? = some x) : ((cellsC a l).toArray.extract 1 19).extract (i * 2) (i * 2 + 2) = #[.int .i64 x.1, V64 x.2] := by
  obtain ⟨h1, h2⟩ := cellsC_at a l i x h
  have hz : (cellsC a l).length = 19 := by rw [cellsC_len]; omega
  refine Array.ext_getElem? fun j => ?_
  rw [Array.getElem?_extract, Array.getElem?_extract]
  have hs : (cellsC a l).toArray.size = 19 := by simpa using hz
  have hs2 : ((cellsC a l).toArray.extract 1 19).size = 18 := by rw [Array.size_extract, hs]; rfl
  rw [hs2, hs]
  rcases j with _ | _ | j
  · rw [if_pos (by omega), if_pos (by omega)]
    rw [show 1 + (i * 2 + 0) = 1 + 2 * i by omega]
    simpa using h1
  · rw [if_pos (by omega), if_pos (by omega)]
    rw [show 1 + (i * 2 + (0 + 1)) = 1 + 2 * i + 1 by omega]
    simpa using h2
  · rw [if_neg (by omega)]
    simp
theorem eqCounters (w : World) (a : Int) (l : List Win) (hl : l.length = 9) : (binOp .eql 29 (.agg (cellsC a l).toArray) (.agg (cellsC a l).toArray)).run Try.prog w = .ok (.bool true) w := by
  rw [run_eql_struct]
  rw [run_equalIn_struct w 9999 29 _ _ (by kernel_rfl) (by kernel_rfl), fields29]
  rw [eqFields_refl w 9999 _ fun f hf => ?_]
  · rfl
  simp only [List.mem_cons, List.not_mem_nil, or_false] at hf
  rcases hf with rfl | rfl
  · exact ⟨.int .i64 a, part_int w Try.underlying3 rfl, (run_equalIn_int w 9998 3 .i64 .i64 a a Try.underlying3).trans (by simp)⟩
  · obtain ⟨i7, hi7⟩ := info_ex 27 (by kernel_rfl)
    obtain ⟨i6, hi6⟩ := info_ex 26 (by kernel_rfl)
    refine ⟨_, part_arr w Try.underlying27 hi7 _ _, ?_⟩
    rw [show Try.prog.cellsOf 27 = 18 by kernel_rfl]
    rw [run_equalIn_array w 9998 _ _ Try.underlying27 hi6]
    refine eqItems_refl w 9998 _ fun i hi => ?_
    have hi9 : i < 9 := by simpa using hi
    obtain ⟨x, hx⟩ : ∃ x, l[i]? = some x := ⟨l[i]'(by omega), by simp⟩
    refine ⟨_, part_struct w Try.underlying26 hi6 _ _, ?_⟩
    rw [show Try.prog.cellsOf 26 = 2 by kernel_rfl]
    rw [win_extract a l hl i hi9 x hx]
    exact eqWin w 9996 _ _ ⟨_, rfl⟩ ⟨_, rfl⟩

/-! ### Slices of ints -/
/-- The slice value .slice ad n cap reads as the ints l. -/
def SlI (w : World) (ad : Option Addr) (l : List Int) : Prop := ∀ (j : Nat) (x : Int), l[j]? = some x → ∃ b off, ad = some ⟨b, off, none⟩ ∧ b < w.heap.size ∧ w.cell? ⟨b, off + j, none⟩ = some (.int .i64 x)
theorem open_ints9 {P : Program} {H : Type} {enc : TypeId × Value → H} {w : World} {r : Reach} {b0 base : Nat} {T E : TypeId} {v : Value} {d : DataW H} {p : List MemPlace} (hT : P.underlying T = some (.slice E)) (hE : P.underlying E = some (.int .i64)) (hc : P.cellsOf E = 1)
    (hv : Value.okWide P w r b0 T v) (h : DataW.Trod enc P w base (fun _ => true) true T v d p) : ∃ (ad : Option Addr) (l : List Int) (cap : Nat), v = .slice ad l.length cap ∧ l.length ≤ 9223372036854775807 ∧ SlI w ad l := by
  obtain ⟨a, len, cap, rfl⟩ := WideShapes.okWide_slice hT hv
  obtain ⟨fuel, hf⟩ := h
  rcases ChangeShapes.open_ints hT hE hc hf with ⟨hcs, _⟩ | ⟨x, len', cap', zs, hcs, _, hl, hm, hz, _, hcell, hwz⟩
  · simp [Value.cells] at hcs
    obtain ⟨rfl, rfl, rfl⟩ := hcs
    exact ⟨none, [], 0, rfl, by simp, fun j x h => by simp at h⟩
  · simp [Value.cells] at hcs
    obtain ⟨rfl, rfl, rfl⟩ := hcs
    simp at hz
    have htl : (zs.take len).length = len := by simp; omega
    refine ⟨some x, zs.take len, cap, by rw [htl], by simp only [maxLen] at hm; simp; omega, fun j y hj => ?_⟩
    have hjl : j < len := by rw [List.getElem?_eq_some_iff] at hj; have := hj.1; omega
    have hx1 := hcell 0 (by omega)
    have hadd0 : x.add 0 = x := by simp [Addr.add]
    rw [hadd0] at hx1
    have hx0 := hcell j (by omega)
    obtain ⟨xb, xo, xs⟩ := x
    have hspot : xs = none := by
      cases xs with
      | none => rfl
      | some q =>
        simp only [World.cell?] at hx1
        split at hx1 <;> simp at hx1
    subst hspot
    rw [List.getElem?_take, if_pos hjl] at hj
    have hg : zs.getD j 0 = y := by simp [List.getD, hj]
    rw [Addr.add_mid, hg] at hx0
    exact ⟨xb, xo, rfl, block_lt_of_cell hx0, hx0⟩

/-! ### Counters by value -/
theorem trod_int_cell {P : Program} {H : Type} {enc : TypeId × Value → H} {w : World} {base : Nat} {spare : Nat → Bool} {held : Bool} {fuel : Nat} {E : TypeId} {k : IntKind} {cs : List Value} {off : Nat} {y : DataW H × List MemPlace} (hE : P.underlying E = some (.int k))
    (h : DataW.trod enc P w base spare held fuel E ((cs.drop off).take 1) = some y) : ∃ z, cs[off]? = some (.int k z) ∧ (Lit.int k z).wf = true := by
  obtain ⟨z, hz, _, hwf⟩ := DataW.trod_int hE h
  refine ⟨z, ?_, hwf⟩
  have : ((cs.drop off).take 1)[0]? = some (.int k z) := by rw [hz]; rfl
  simpa using this
theorem okWide_struct {P : Program} {w : World} {r : Reach} {b0 : Nat} {T : TypeId} {fs : Array Field} {v : Value} (hT : P.underlying T = some (.struct fs)) (hv : Value.okWide P w r b0 T v) : ∃ cs, v = .agg cs ∧ cs.size = P.cellsOf T := by
  unfold Value.okWide at hv
  rw [hT] at hv
  obtain ⟨cs, rfl, h, _⟩ := hv
  exact ⟨cs, rfl, h⟩
set_option maxRecDepth 100000 in
theorem trod_win {H : Type} {enc : TypeId × Value → H} {w : World} {base : Nat} {spare : Nat → Bool} {held : Bool} {fuel : Nat} {cs : List Value} {y : DataW H × List MemPlace}
    (h : DataW.trod enc Try.prog w base spare held fuel 26 cs = some y) : ∃ (t : Int) (s : BitVec 64), cs = [.int .i64 t, V64 s] := by
  obtain ⟨xs, n, _, _, hl, hlen, hf⟩ := DataW.trod_struct Try.underlying26 h
  rw [show Try.prog.cellsOf 26 = 2 by kernel_rfl] at hl
  have h0 : DataW.trod enc Try.prog w base spare held n 3 ((cs.drop 0).take (Try.prog.cellsOf 3)) = xs[0]? := hf 0 _ rfl
  have h1 : DataW.trod enc Try.prog w base spare held n 24 ((cs.drop 1).take (Try.prog.cellsOf 24)) = xs[1]? := hf 1 _ rfl
  rw [show Try.prog.cellsOf 3 = 1 by kernel_rfl] at h0
  rw [show Try.prog.cellsOf 24 = 1 by kernel_rfl] at h1
  have hn : xs.length = 2 := hlen
  obtain ⟨y0, hy0⟩ : ∃ y0, xs[0]? = some y0 := ⟨xs[0]'(by omega), by simp⟩
  obtain ⟨y1, hy1⟩ : ∃ y1, xs[1]? = some y1 := ⟨xs[1]'(by omega), by simp⟩
  rw [hy0] at h0
  rw [hy1] at h1
  obtain ⟨t, ht, _⟩ := trod_int_cell Try.underlying3 h0
  obtain ⟨s, hs, ws⟩ := trod_int_cell Try.underlying24 h1
  obtain ⟨q, rfl⟩ := bv_of_wf (m := 64) .u64 (.inr (.inr ⟨rfl, rfl⟩)) ws
  match cs, hl with
  | [c0, c1], _ =>
    simp at ht hs
    exact ⟨t, q, by rw [ht, hs]⟩
set_option maxRecDepth 100000 in
theorem open_counters {H : Type} {enc : TypeId × Value → H} {w : World} {r : Reach} {b0 base : Nat} {spare : Nat → Bool} {held : Bool} {v : Value} {d : DataW H} {p : List MemPlace}
    (hv : Value.okWide Try.prog w r b0 29 v) (h : DataW.Trod enc Try.prog w base spare held 29 v d p) : ∃ (a : Int) (l : List Win), (Lit.int .i64 a).wf = true ∧ l.length = 9 ∧ v = .agg (cellsC a l).toArray := by
  obtain ⟨cs, rfl, hsz⟩ := okWide_struct Try.underlying29 hv
  rw [show Try.prog.cellsOf 29 = 19 by kernel_rfl] at hsz
  obtain ⟨fuel, hf⟩ := h
  obtain ⟨xs, n, _, _, hl, hlen, hf⟩ := DataW.trod_struct Try.underlying29 hf
  have h0 : DataW.trod enc Try.prog w base spare held n 3 ((cs.toList.drop 0).take (Try.prog.cellsOf 3)) = xs[0]? := hf 0 _ rfl
  have h1 : DataW.trod enc Try.prog w base spare held n 27 ((cs.toList.drop 1).take (Try.prog.cellsOf 27)) = xs[1]? := hf 1 _ rfl
  rw [show Try.prog.cellsOf 3 = 1 by kernel_rfl] at h0
  rw [show Try.prog.cellsOf 27 = 18 by kernel_rfl] at h1
  have hn : xs.length = 2 := hlen
  obtain ⟨y0, hy0⟩ : ∃ y0, xs[0]? = some y0 := ⟨xs[0]'(by omega), by simp⟩
  obtain ⟨y1, hy1⟩ : ∃ y1, xs[1]? = some y1 := ⟨xs[1]'(by omega), by simp⟩
  rw [hy0] at h0
  rw [hy1] at h1
  obtain ⟨a, ha, wa⟩ := trod_int_cell Try.underlying3 h0
  obtain ⟨zs, m, _, _, _, hzl, hall⟩ := DataW.trod_array Try.underlying27 h1
  rw [show Try.prog.cellsOf 26 = 2 by kernel_rfl] at hall
  have hw : ∀ i : Nat, i < 9 → ∃ x : Win, ((cs.toList.drop 1).drop (i * 2)).take 2 = cellsW x := fun i hi => by
    have h3 := hall i hi
    obtain ⟨y, hy⟩ : ∃ y, zs[i]? = some y := ⟨zs[i]'(by omega), by simp⟩
    rw [hy] at h3
    obtain ⟨t, s, hts⟩ := trod_win h3
    refine ⟨(t, s), ?_⟩
    rw [List.take_of_length_le (l := cs.toList.drop 1) (by simp; omega)] at hts
    exact hts
  have key : ∀ c, c ≤ 9 → ∃ l : List Win, l.length = c ∧ (cs.toList.drop 1).take (c * 2) = cellsWs l := by
    intro c
    induction c with
    | zero => intro _; exact ⟨[], rfl, by simp [cellsWs]⟩
    | succ c ih =>
      intro hc
      obtain ⟨l, hl, he⟩ := ih (by omega)
      obtain ⟨x, hx⟩ := hw c (by omega)
      refine ⟨l ++ [x], by simp [hl], ?_⟩
      rw [show (c + 1) * 2 = c * 2 + 2 by omega, List.take_add, he, hx]
      simp [cellsWs]
  obtain ⟨l, hl9, he⟩ := key 9 (Nat.le_refl _)
  refine ⟨a, l, wa, hl9, ?_⟩
  rw [List.take_of_length_le (by simp; omega)] at he
  have : cs.toList = cellsC a l := by
    unfold cellsC
    rw [← he]
    match hcs : cs.toList, (by simp [hsz] : cs.toList.length = 19) with
    | c0 :: rest, _ =>
      rw [hcs] at ha
      simp at ha
      rw [ha]; rfl
  rw [← this]
end Go.Proofs.Ytjnaegpjhbobaaa
