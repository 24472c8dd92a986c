/- '==' of two structs: field by field. -/
import Derived.Test.YtfecopfofkdnpaaHd
import Derived.Test.YtfecopfofkdnpaaEq
import Derived.ChangeKeysEq
namespace Go.Proofs.Ytfecopfofkdnpaa
open Go.RowKit
section
variable {P : Program}
theorem isAgg_intC (w : World) {E : TypeId} {k : IntKind} (hE : P.underlying E = some (.int k)) : (isAgg E).run P w = .ok false w := by
  unfold isAgg; rw [Sem.run_bind, run_underlying hE w]; rfl
theorem part_int (w : World) {E : TypeId} {k : IntKind} (hE : P.underlying E = some (.int k)) {xs : Array Value} {off : Nat} {v : Value} (h : xs[off]? = some v) : (part E xs off).run P w = .ok v w := by
  simp [part, isAgg_intC w hE, h]
theorem part_arr (w : World) {E e : TypeId} {n : Nat} {i : TypeInfo} (hE : P.underlying E = some (.array n e)) (hi : P.info? E = some i) (xs : Array Value) (off : Nat) : (part E xs off).run P w = .ok (.agg (xs.extract off (off + P.cellsOf E))) w := by
  simp [part, isAgg, run_underlying hE, run_sizeOf w hi]
theorem eqItems_all (w : World) (d : Nat) {e : TypeId} {c : Nat} {xs ys : Array Value} (q : Nat → Bool) : ∀ (is : List Nat), (∀ i ∈ is, ∃ v u, (part e xs (i * c)).run P w = .ok v w ∧ (part e ys (i * c)).run P w = .ok u w ∧ (Op.equalIn d e v u).run P w = .ok (q i) w) →
    (Op.eqItems d e c xs ys is).run P w = .ok (is.all q) w
  | [], _ => by simp [Op.eqItems]
  | i :: is, h => by
    obtain ⟨v, u, h1, h2, h3⟩ := h i (by simp)
    have h4 := eqItems_all w d q is fun j hj => h j (by simp [hj])
    simp only [Op.eqItems, Sem.run_bind, h1, h2, Result.andThen_ok, h3, Sem.run_ite, List.all_cons]
    cases q i with
    | false => simp
    | true => simp [h4]
theorem eqFields_all (w : World) (d : Nat) {xs ys : Array Value} (q : Field → Bool) : ∀ (fs : List Field), (∀ f ∈ fs, f.name ≠ "_") → (∀ f ∈ fs, ∃ v u, (part f.type xs f.offset).run P w = .ok v w ∧ (part f.type ys f.offset).run P w = .ok u w ∧ (Op.equalIn d f.type v u).run P w = .ok (q f) w) →
    (Op.eqFields d xs ys fs).run P w = .ok (fs.all q) w
  | [], _, _ => by simp [Op.eqFields]
  | f :: fs, hn, h => by
    obtain ⟨v, u, h1, h2, h3⟩ := h f (by simp)
    have h4 := eqFields_all w d q fs (fun g hg => hn g (by simp [hg])) fun g hg => h g (by simp [hg])
    have hf := hn f (by simp)
    simp only [Op.eqFields, hf, ne_eq, not_false_eq_true, if_true, Sem.run_bind, h1, h2, Result.andThen_ok, h3, List.all_cons]
    cases q f with
    | false => simp
    | true => simp [h4]
end
theorem info_ex (t : TypeId) (h : (Try.prog.info? t).isSome = true) : ∃ i, Try.prog.info? t = some i := Option.isSome_iff_exists.1 h
theorem part_bool (w : World) {E : TypeId} (hE : Try.prog.underlying E = some .bool) {xs : Array Value} {off : Nat} {v : Value} (h : xs[off]? = some v) : (part E xs off).run Try.prog w = .ok v w := by
  have hg : (isAgg E).run Try.prog w = .ok false w := by unfold isAgg; rw [Sem.run_bind, run_underlying hE w]; rfl
  simp [part, hg, h]
theorem fields28 : Try.prog.fieldsOf 28 = #[{ name := "Kind", type := 5, offset := 0, embedded := false, tag := "", pkgPath := "", byteOffset := 0 }, { name := "Sub", type := 5, offset := 1, embedded := false, tag := "", pkgPath := "", byteOffset := 1 }, { name := "ToDs", type := 4, offset := 2, embedded := false, tag := "", pkgPath := "", byteOffset := 2 }, { name := "FromDs", type := 4, offset := 3, embedded := false, tag := "", pkgPath := "", byteOffset := 3 }, { name := "More", type := 4, offset := 4, embedded := false, tag := "", pkgPath := "", byteOffset := 4 }, { name := "Retry", type := 4, offset := 5, embedded := false, tag := "", pkgPath := "", byteOffset := 5 }, { name := "Sleep", type := 4, offset := 6, embedded := false, tag := "", pkgPath := "", byteOffset := 6 }, { name := "MoreData", type := 4, offset := 7, embedded := false, tag := "", pkgPath := "", byteOffset := 7 }, { name := "Protected", type := 4, offset := 8, embedded := false, tag := "", pkgPath := "", byteOffset := 8 }, { name := "Duration", type := 3, offset := 9, embedded := false, tag := "", pkgPath := "", byteOffset := 16 }, { name := "A1", type := 23, offset := 10, embedded := false, tag := "", pkgPath := "", byteOffset := 24 }, { name := "A2", type := 23, offset := 16, embedded := false, tag := "", pkgPath := "", byteOffset := 30 }, { name := "A3", type := 23, offset := 22, embedded := false, tag := "", pkgPath := "", byteOffset := 36 }, { name := "A4", type := 23, offset := 28, embedded := false, tag := "", pkgPath := "", byteOffset := 42 }, { name := "Seq", type := 3, offset := 34, embedded := false, tag := "", pkgPath := "", byteOffset := 48 }, { name := "Frag", type := 3, offset := 35, embedded := false, tag := "", pkgPath := "", byteOffset := 56 }, { name := "Tid", type := 3, offset := 36, embedded := false, tag := "", pkgPath := "", byteOffset := 64 }, { name := "Ack", type := 5, offset := 37, embedded := false, tag := "", pkgPath := "", byteOffset := 72 }, { name := "Amsdu", type := 4, offset := 38, embedded := false, tag := "", pkgPath := "", byteOffset := 73 }, { name := "Eosp", type := 4, offset := 39, embedded := false, tag := "", pkgPath := "", byteOffset := 74 }] := by kernel_rfl
theorem fields39 : Try.prog.fieldsOf 39 = #[{ name := "Addr", type := 23, offset := 0, embedded := false, tag := "", pkgPath := "", byteOffset := 0 }, { name := "State", type := 5, offset := 6, embedded := false, tag := "", pkgPath := "", byteOffset := 6 }, { name := "Aid", type := 3, offset := 7, embedded := false, tag := "", pkgPath := "", byteOffset := 8 }, { name := "Caps", type := 3, offset := 8, embedded := false, tag := "", pkgPath := "", byteOffset := 16 }, { name := "Listen", type := 3, offset := 9, embedded := false, tag := "", pkgPath := "", byteOffset := 24 }, { name := "Seen", type := 3, offset := 10, embedded := false, tag := "", pkgPath := "", byteOffset := 32 }] := by kernel_rfl
theorem sizeU8q : (Try.prog.info? 5).map (·.size) = some 1 := by kernel_rfl
theorem eqHdIn (w : World) (x y : Hd) (hx : x.Ok) (hy : y.Ok) : (Op.equalIn 10000 28 (.agg (cellsH x).toArray) (.agg (cellsH y).toArray)).run Try.prog w = .ok (decide (x = y)) w := by
  obtain ⟨ik, hik⟩ := info_ex 23 (by kernel_rfl)
  have hxa1 := hx.l1; have hxa2 := hx.l2; have hxa3 := hx.l3; have hxa4 := hx.l4
  have hya1 := hy.l1; have hya2 := hy.l2; have hya3 := hy.l3; have hya4 := hy.l4
  clear hx hy
  obtain ⟨k, s, b1, b2, b3, b4, b5, b6, b7, du, a1, a2, a3, a4, sq, fr, ti, ac, am, eo⟩ := x
  obtain ⟨k', s', b1', b2', b3', b4', b5', b6', b7', du', a1', a2', a3', a4', sq', fr', ti', ac', am', eo'⟩ := y
  dsimp only at hxa1 hxa2 hxa3 hxa4 hya1 hya2 hya3 hya4
  obtain ⟨a1_0, a1_1, a1_2, a1_3, a1_4, a1_5, rfl⟩ := six hxa1
  obtain ⟨a2_0, a2_1, a2_2, a2_3, a2_4, a2_5, rfl⟩ := six hxa2
  obtain ⟨a3_0, a3_1, a3_2, a3_3, a3_4, a3_5, rfl⟩ := six hxa3
  obtain ⟨a4_0, a4_1, a4_2, a4_3, a4_4, a4_5, rfl⟩ := six hxa4
  obtain ⟨a1_0', a1_1', a1_2', a1_3', a1_4', a1_5', rfl⟩ := six hya1
  obtain ⟨a2_0', a2_1', a2_2', a2_3', a2_4', a2_5', rfl⟩ := six hya2
  obtain ⟨a3_0', a3_1', a3_2', a3_3', a3_4', a3_5', rfl⟩ := six hya3
  obtain ⟨a4_0', a4_1', a4_2', a4_3', a4_4', a4_5', rfl⟩ := six hya4
  rw [run_equalIn_struct w 9999 28 _ _ (by kernel_rfl) (by kernel_rfl), fields28]
  rw [eqFields_all w 9999 (fun f => if f.offset = 0 then k == k' else if f.offset = 1 then s == s' else if f.offset = 2 then b1 == b1' else if f.offset = 3 then b2 == b2' else if f.offset = 4 then b3 == b3' else if f.offset = 5 then b4 == b4' else if f.offset = 6 then b5 == b5' else if f.offset = 7 then b6 == b6' else if f.offset = 8 then b7 == b7' else if f.offset = 9 then du == du' else if f.offset = 10 then [a1_0, a1_1, a1_2, a1_3, a1_4, a1_5] == [a1_0', a1_1', a1_2', a1_3', a1_4', a1_5'] else if f.offset = 16 then [a2_0, a2_1, a2_2, a2_3, a2_4, a2_5] == [a2_0', a2_1', a2_2', a2_3', a2_4', a2_5'] else if f.offset = 22 then [a3_0, a3_1, a3_2, a3_3, a3_4, a3_5] == [a3_0', a3_1', a3_2', a3_3', a3_4', a3_5'] else if f.offset = 28 then [a4_0, a4_1, a4_2, a4_3, a4_4, a4_5] == [a4_0', a4_1', a4_2', a4_3', a4_4', a4_5'] else if f.offset = 34 then sq == sq' else if f.offset = 35 then fr == fr' else if f.offset = 36 then ti == ti' else if f.offset = 37 then ac == ac' else if f.offset = 38 then am == am' else eo == eo') _ (by decide) fun f hf => ?_]
  · refine congrArg (fun z => Result.ok z w) (Bool.eq_iff_iff.2 ?_); simp [and_assoc]
  simp only [List.mem_cons, List.not_mem_nil, or_false] at hf
  rcases hf with rfl | rfl | rfl | rfl | rfl | rfl | rfl | rfl | rfl | rfl | rfl | rfl | rfl | rfl | rfl | rfl | rfl | rfl | rfl | rfl
  · exact ⟨_, _, part_int w Try.underlying5 rfl, part_int w Try.underlying5 rfl, (run_equalIn_int w 9998 5 _ _ _ _ Try.underlying5).trans (by simp)⟩
  · exact ⟨_, _, part_int w Try.underlying5 rfl, part_int w Try.underlying5 rfl, (run_equalIn_int w 9998 5 _ _ _ _ Try.underlying5).trans (by simp)⟩
  · exact ⟨_, _, part_bool w Try.underlying4 rfl, part_bool w Try.underlying4 rfl, (run_equalIn_bool w 9998 4 _ _ Try.underlying4).trans (by simp)⟩
  · exact ⟨_, _, part_bool w Try.underlying4 rfl, part_bool w Try.underlying4 rfl, (run_equalIn_bool w 9998 4 _ _ Try.underlying4).trans (by simp)⟩
  · exact ⟨_, _, part_bool w Try.underlying4 rfl, part_bool w Try.underlying4 rfl, (run_equalIn_bool w 9998 4 _ _ Try.underlying4).trans (by simp)⟩
  · exact ⟨_, _, part_bool w Try.underlying4 rfl, part_bool w Try.underlying4 rfl, (run_equalIn_bool w 9998 4 _ _ Try.underlying4).trans (by simp)⟩
  · exact ⟨_, _, part_bool w Try.underlying4 rfl, part_bool w Try.underlying4 rfl, (run_equalIn_bool w 9998 4 _ _ Try.underlying4).trans (by simp)⟩
  · exact ⟨_, _, part_bool w Try.underlying4 rfl, part_bool w Try.underlying4 rfl, (run_equalIn_bool w 9998 4 _ _ Try.underlying4).trans (by simp)⟩
  · exact ⟨_, _, part_bool w Try.underlying4 rfl, part_bool w Try.underlying4 rfl, (run_equalIn_bool w 9998 4 _ _ Try.underlying4).trans (by simp)⟩
  · exact ⟨_, _, part_int w Try.underlying3 rfl, part_int w Try.underlying3 rfl, (run_equalIn_int w 9998 3 _ _ _ _ Try.underlying3).trans (by simp)⟩
  · refine ⟨_, _, part_arr w Try.underlying23 hik _ _, part_arr w Try.underlying23 hik _ _, ?_⟩
    rw [show Try.prog.cellsOf 23 = 6 by kernel_rfl]
    exact (run_eq_ints (P := Try.prog) w Try.underlying23 Try.underlying5 sizeU8q _ _ hxa1 hya1 9997).trans (by simp)
  · refine ⟨_, _, part_arr w Try.underlying23 hik _ _, part_arr w Try.underlying23 hik _ _, ?_⟩
    rw [show Try.prog.cellsOf 23 = 6 by kernel_rfl]
    exact (run_eq_ints (P := Try.prog) w Try.underlying23 Try.underlying5 sizeU8q _ _ hxa2 hya2 9997).trans (by simp)
  · refine ⟨_, _, part_arr w Try.underlying23 hik _ _, part_arr w Try.underlying23 hik _ _, ?_⟩
    rw [show Try.prog.cellsOf 23 = 6 by kernel_rfl]
    exact (run_eq_ints (P := Try.prog) w Try.underlying23 Try.underlying5 sizeU8q _ _ hxa3 hya3 9997).trans (by simp)
  · refine ⟨_, _, part_arr w Try.underlying23 hik _ _, part_arr w Try.underlying23 hik _ _, ?_⟩
    rw [show Try.prog.cellsOf 23 = 6 by kernel_rfl]
    exact (run_eq_ints (P := Try.prog) w Try.underlying23 Try.underlying5 sizeU8q _ _ hxa4 hya4 9997).trans (by simp)
  · exact ⟨_, _, part_int w Try.underlying3 rfl, part_int w Try.underlying3 rfl, (run_equalIn_int w 9998 3 _ _ _ _ Try.underlying3).trans (by simp)⟩
  · exact ⟨_, _, part_int w Try.underlying3 rfl, part_int w Try.underlying3 rfl, (run_equalIn_int w 9998 3 _ _ _ _ Try.underlying3).trans (by simp)⟩
  · exact ⟨_, _, part_int w Try.underlying3 rfl, part_int w Try.underlying3 rfl, (run_equalIn_int w 9998 3 _ _ _ _ Try.underlying3).trans (by simp)⟩
  · exact ⟨_, _, part_int w Try.underlying5 rfl, part_int w Try.underlying5 rfl, (run_equalIn_int w 9998 5 _ _ _ _ Try.underlying5).trans (by simp)⟩
  · exact ⟨_, _, part_bool w Try.underlying4 rfl, part_bool w Try.underlying4 rfl, (run_equalIn_bool w 9998 4 _ _ Try.underlying4).trans (by simp)⟩
  · exact ⟨_, _, part_bool w Try.underlying4 rfl, part_bool w Try.underlying4 rfl, (run_equalIn_bool w 9998 4 _ _ Try.underlying4).trans (by simp)⟩
theorem neHd (w : World) (x y : Hd) (hx : x.Ok) (hy : y.Ok) : (binOp .neq 28 (.agg (cellsH x).toArray) (.agg (cellsH y).toArray)).run Try.prog w = .ok (.bool (!decide (x = y))) w := by
  rw [run_neq_struct, eqHdIn w x y hx hy]; rfl
/-- An entry of a station. -/
structure En where
  addr : List (BitVec 8)
  state : Int
  aid : Int
  caps : Int
  listen : Int
  seen : Int
deriving DecidableEq
structure En.Ok (e : En) : Prop where
  l : e.addr.length = 6
  s0 : 0 ≤ e.state
  s1 : e.state < 256
def cellsE (e : En) : List Value := e.addr.map V8 ++ [.int .u8 e.state, .int .i64 e.aid, .int .i64 e.caps, .int .i64 e.listen, .int .i64 e.seen]
theorem eqEnIn (w : World) (x y : En) (hx : x.Ok) (hy : y.Ok) : (Op.equalIn 10000 39 (.agg (cellsE x).toArray) (.agg (cellsE y).toArray)).run Try.prog w = .ok (decide (x = y)) w := by
  obtain ⟨ik, hik⟩ := info_ex 23 (by kernel_rfl)
  have hxaddr := hx.l; have hyaddr := hy.l
  clear hx hy
  obtain ⟨ad, st, ai, ca, li, se⟩ := x
  obtain ⟨ad', st', ai', ca', li', se'⟩ := y
  dsimp only at hxaddr hyaddr
  obtain ⟨addr_0, addr_1, addr_2, addr_3, addr_4, addr_5, rfl⟩ := six hxaddr
  obtain ⟨addr_0', addr_1', addr_2', addr_3', addr_4', addr_5', rfl⟩ := six hyaddr
  rw [run_equalIn_struct w 9999 39 _ _ (by kernel_rfl) (by kernel_rfl), fields39]
  rw [eqFields_all w 9999 (fun f => if f.offset = 0 then [addr_0, addr_1, addr_2, addr_3, addr_4, addr_5] == [addr_0', addr_1', addr_2', addr_3', addr_4', addr_5'] else if f.offset = 6 then st == st' else if f.offset = 7 then ai == ai' else if f.offset = 8 then ca == ca' else if f.offset = 9 then li == li' else se == se') _ (by decide) fun f hf => ?_]
  · refine congrArg (fun z => Result.ok z w) (Bool.eq_iff_iff.2 ?_); simp [and_assoc]
  simp only [List.mem_cons, List.not_mem_nil, or_false] at hf
  rcases hf with rfl | rfl | rfl | rfl | rfl | rfl
  · refine ⟨_, _, part_arr w Try.underlying23 hik _ _, part_arr w Try.underlying23 hik _ _, ?_⟩
    rw [show Try.prog.cellsOf 23 = 6 by kernel_rfl]
    exact (run_eq_ints (P := Try.prog) w Try.underlying23 Try.underlying5 sizeU8q _ _ hxaddr hyaddr 9997).trans (by simp)
  · exact ⟨_, _, part_int w Try.underlying5 rfl, part_int w Try.underlying5 rfl, (run_equalIn_int w 9998 5 _ _ _ _ Try.underlying5).trans (by simp)⟩
  · exact ⟨_, _, part_int w Try.underlying3 rfl, part_int w Try.underlying3 rfl, (run_equalIn_int w 9998 3 _ _ _ _ Try.underlying3).trans (by simp)⟩
  · exact ⟨_, _, part_int w Try.underlying3 rfl, part_int w Try.underlying3 rfl, (run_equalIn_int w 9998 3 _ _ _ _ Try.underlying3).trans (by simp)⟩
  · exact ⟨_, _, part_int w Try.underlying3 rfl, part_int w Try.underlying3 rfl, (run_equalIn_int w 9998 3 _ _ _ _ Try.underlying3).trans (by simp)⟩
  · exact ⟨_, _, part_int w Try.underlying3 rfl, part_int w Try.underlying3 rfl, (run_equalIn_int w 9998 3 _ _ _ _ Try.underlying3).trans (by simp)⟩
theorem eqEn (w : World) (x y : En) (hx : x.Ok) (hy : y.Ok) : (binOp .eql 39 (.agg (cellsE x).toArray) (.agg (cellsE y).toArray)).run Try.prog w = .ok (.bool (decide (x = y))) w := by
  rw [run_eql_struct, eqEnIn w x y hx hy]; rfl
theorem neEn (w : World) (x y : En) (hx : x.Ok) (hy : y.Ok) : (binOp .neq 39 (.agg (cellsE x).toArray) (.agg (cellsE y).toArray)).run Try.prog w = .ok (.bool (!decide (x = y))) w := by
  rw [run_neq_struct, eqEnIn w x y hx hy]; rfl
end Go.Proofs.Ytfecopfofkdnpaa
