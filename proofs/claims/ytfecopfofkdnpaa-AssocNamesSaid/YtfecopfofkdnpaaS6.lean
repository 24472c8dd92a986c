/- Texts of this proof, put together: EqS, Qz, Mp3, AppB, Fl3. -/
import Derived.Test.YtfecopfofkdnpaaS5
import Derived.Test.YtfecopfofkdnpaaS3
import Derived.ChangeKeysEq
import Derived.MapKept
import Derived.Test.YtfecopfofkdnpaaS4
import Derived.Test.YtfecopfofkdnpaaS1
namespace Go.Proofs.Ytfecopfofkdnpaa
open Go.RowKit
section
variable {P : Program}
theorem isAgg_intC (w : World) {E : TypeId} {k : IntKind} (hE : P.underlying E = some (.int k)) : (isAgg E).run P w = .ok false w := by
 unfold isAgg; rw [Sem.run_bind, run_underlying hE w]; rfl
theorem part_int (w : World) {E : TypeId} {k : IntKind} (hE : P.underlying E = some (.int k)) {xs : Array Value} {off : Nat} {v : Value} (h : xs[off]? = some v) : (part E xs off).run P w = .ok v w := by
 simp [part, isAgg_intC w hE, h]
theorem part_arr (w : World) {E e : TypeId} {n : Nat} {i : TypeInfo} (hE : P.underlying E = some (.array n e)) (hi : P.info? E = some i) (xs : Array Value) (off : Nat) : (part E xs off).run P w = .ok (.agg (xs.extract off (off + P.cellsOf E))) w := by
 simp [part, isAgg, run_underlying hE, run_sizeOf w hi]
theorem eqFields_all (w : World) (d : Nat) {xs ys : Array Value} (q : Field → Bool) : ∀ (fs : List Field), (∀ f ∈ fs, f.name ≠ "_") → (∀ f ∈ fs, ∃ v u, (part f.type xs f.offset).run P w = .ok v w ∧ (part f.type ys f.offset).run P w = .ok u w ∧ (Op.equalIn d f.type v u).run P w = .ok (q f) w) →
  (Op.eqFields d xs ys fs).run P w = .ok (fs.all q) w
 | [], _, _ => by simp [Op.eqFields]
 | f :: fs, hn, h => by
  obtain ⟨v, u, h1, h2, h3⟩ := h f (by simp)
  have h4 := eqFields_all w d q fs (fun g hg => hn g (by simp [hg])) fun g hg => h g (by simp [hg])
  have hf := hn f (by simp)
  simp only [Op.eqFields, hf, ne_eq, not_false_eq_true, if_true, Sem.run_bind, h1, h2, Result.andThen_ok, h3, List.all_cons]
  cases q f with
  | false => simp
  | true => simp [h4]
end
theorem info_ex (t : TypeId) (h : (Try.prog.info? t).isSome = true) : ∃ i, Try.prog.info? t = some i := Option.isSome_iff_exists.1 h
theorem part_bool (w : World) {E : TypeId} (hE : Try.prog.underlying E = some .bool) {xs : Array Value} {off : Nat} {v : Value} (h : xs[off]? = some v) : (part E xs off).run Try.prog w = .ok v w := by
 have hg : (isAgg E).run Try.prog w = .ok false w := by unfold isAgg; rw [Sem.run_bind, run_underlying hE w]; rfl
 simp [part, hg, h]
theorem fields28 : Try.prog.fieldsOf 28 = #[{ name := "Kind", type := 5, offset := 0, embedded := false, tag := "", pkgPath := "", byteOffset := 0 }, { name := "Sub", type := 5, offset := 1, embedded := false, tag := "", pkgPath := "", byteOffset := 1 }, { name := "ToDs", type := 4, offset := 2, embedded := false, tag := "", pkgPath := "", byteOffset := 2 }, { name := "FromDs", type := 4, offset := 3, embedded := false, tag := "", pkgPath := "", byteOffset := 3 }, { name := "More", type := 4, offset := 4, embedded := false, tag := "", pkgPath := "", byteOffset := 4 }, { name := "Retry", type := 4, offset := 5, embedded := false, tag := "", pkgPath := "", byteOffset := 5 }, { name := "Sleep", type := 4, offset := 6, embedded := false, tag := "", pkgPath := "", byteOffset := 6 }, { name := "MoreData", type := 4, offset := 7, embedded := false, tag := "", pkgPath := "", byteOffset := 7 }, { name := "Protected", type := 4, offset := 8, embedded := false, tag := "", pkgPath := "", byteOffset := 8 }, { name := "Duration", type := 3, offset := 9, embedded := false, tag := "", pkgPath := "", byteOffset := 16 }, { name := "A1", type := 23, offset := 10, embedded := false, tag := "", pkgPath := "", byteOffset := 24 }, { name := "A2", type := 23, offset := 16, embedded := false, tag := "", pkgPath := "", byteOffset := 30 }, { name := "A3", type := 23, offset := 22, embedded := false, tag := "", pkgPath := "", byteOffset := 36 }, { name := "A4", type := 23, offset := 28, embedded := false, tag := "", pkgPath := "", byteOffset := 42 }, { name := "Seq", type := 3, offset := 34, embedded := false, tag := "", pkgPath := "", byteOffset := 48 }, { name := "Frag", type := 3, offset := 35, embedded := false, tag := "", pkgPath := "", byteOffset := 56 }, { name := "Tid", type := 3, offset := 36, embedded := false, tag := "", pkgPath := "", byteOffset := 64 }, { name := "Ack", type := 5, offset := 37, embedded := false, tag := "", pkgPath := "", byteOffset := 72 }, { name := "Amsdu", type := 4, offset := 38, embedded := false, tag := "", pkgPath := "", byteOffset := 73 }, { name := "Eosp", type := 4, offset := 39, embedded := false, tag := "", pkgPath := "", byteOffset := 74 }] := by kernel_rfl
theorem fields39 : Try.prog.fieldsOf 39 = #[{ name := "Addr", type := 23, offset := 0, embedded := false, tag := "", pkgPath := "", byteOffset := 0 }, { name := "State", type := 5, offset := 6, embedded := false, tag := "", pkgPath := "", byteOffset := 6 }, { name := "Aid", type := 3, offset := 7, embedded := false, tag := "", pkgPath := "", byteOffset := 8 }, { name := "Caps", type := 3, offset := 8, embedded := false, tag := "", pkgPath := "", byteOffset := 16 }, { name := "Listen", type := 3, offset := 9, embedded := false, tag := "", pkgPath := "", byteOffset := 24 }, { name := "Seen", type := 3, offset := 10, embedded := false, tag := "", pkgPath := "", byteOffset := 32 }] := by kernel_rfl
theorem sizeU8q : (Try.prog.info? 5).map (·.size) = some 1 := by kernel_rfl
theorem eqHdIn (w : World) (x y : Hd) (hx : x.Ok) (hy : y.Ok) : (Op.equalIn 10000 28 (.agg (cellsH x).toArray) (.agg (cellsH y).toArray)).run Try.prog w = .ok (decide (x = y)) w := by
 obtain ⟨ik, hik⟩ := info_ex 23 (by kernel_rfl)
 have hxa1 := hx.l1; have hxa2 := hx.l2; have hxa3 := hx.l3; have hxa4 := hx.l4
 have hya1 := hy.l1; have hya2 := hy.l2; have hya3 := hy.l3; have hya4 := hy.l4
 clear hx hy
 obtain ⟨k, s, b1, b2, b3, b4, b5, b6, b7, du, a1, a2, a3, a4, sq, fr, ti, ac, am, eo⟩ := x
 obtain ⟨k', s', b1', b2', b3', b4', b5', b6', b7', du', a1', a2', a3', a4', sq', fr', ti', ac', am', eo'⟩ := y
 dsimp only at hxa1 hxa2 hxa3 hxa4 hya1 hya2 hya3 hya4
 obtain ⟨a1_0, a1_1, a1_2, a1_3, a1_4, a1_5, rfl⟩ := six hxa1
 obtain ⟨a2_0, a2_1, a2_2, a2_3, a2_4, a2_5, rfl⟩ := six hxa2
 obtain ⟨a3_0, a3_1, a3_2, a3_3, a3_4, a3_5, rfl⟩ := six hxa3
 obtain ⟨a4_0, a4_1, a4_2, a4_3, a4_4, a4_5, rfl⟩ := six hxa4
 obtain ⟨a1_0', a1_1', a1_2', a1_3', a1_4', a1_5', rfl⟩ := six hya1
 obtain ⟨a2_0', a2_1', a2_2', a2_3', a2_4', a2_5', rfl⟩ := six hya2
 obtain ⟨a3_0', a3_1', a3_2', a3_3', a3_4', a3_5', rfl⟩ := six hya3
 obtain ⟨a4_0', a4_1', a4_2', a4_3', a4_4', a4_5', rfl⟩ := six hya4
 rw [run_equalIn_struct w 9999 28 _ _ (by kernel_rfl) (by kernel_rfl), fields28]
 rw [eqFields_all w 9999 (fun f => if f.offset = 0 then k == k' else if f.offset = 1 then s == s' else if f.offset = 2 then b1 == b1' else if f.offset = 3 then b2 == b2' else if f.offset = 4 then b3 == b3' else if f.offset = 5 then b4 == b4' else if f.offset = 6 then b5 == b5' else if f.offset = 7 then b6 == b6' else if f.offset = 8 then b7 == b7' else if f.offset = 9 then du == du' else if f.offset = 10 then [a1_0, a1_1, a1_2, a1_3, a1_4, a1_5] == [a1_0', a1_1', a1_2', a1_3', a1_4', a1_5'] else if f.offset = 16 then [a2_0, a2_1, a2_2, a2_3, a2_4, a2_5] == [a2_0', a2_1', a2_2', a2_3', a2_4', a2_5'] else if f.offset = 22 then [a3_0, a3_1, a3_2, a3_3, a3_4, a3_5] == [a3_0', a3_1', a3_2', a3_3', a3_4', a3_5'] else if f.offset = 28 then [a4_0, a4_1, a4_2, a4_3, a4_4, a4_5] == [a4_0', a4_1', a4_2', a4_3', a4_4', a4_5'] else if f.offset = 34 then sq == sq' else if f.offset = 35 then fr == fr' else if f.offset = 36 then ti == ti' else if f.offset = 37 then ac == ac' else if f.offset = 38 then am == am' else eo == eo') _ (by decide) fun f hf => ?_]
 ·refine congrArg (fun z => Result.ok z w) (Bool.eq_iff_iff.2 ?_); simp [and_assoc]
 simp only [List.mem_cons, List.not_mem_nil, or_false] at hf
 rcases hf with rfl | rfl | rfl | rfl | rfl | rfl | rfl | rfl | rfl | rfl | rfl | rfl | rfl | rfl | rfl | rfl | rfl | rfl | rfl | rfl
 ·exact ⟨_, _, part_int w Try.underlying5 rfl, part_int w Try.underlying5 rfl, (run_equalIn_int w 9998 5 _ _ _ _ Try.underlying5).trans (by simp)⟩
 ·exact ⟨_, _, part_int w Try.underlying5 rfl, part_int w Try.underlying5 rfl, (run_equalIn_int w 9998 5 _ _ _ _ Try.underlying5).trans (by simp)⟩
 ·exact ⟨_, _, part_bool w Try.underlying4 rfl, part_bool w Try.underlying4 rfl, (run_equalIn_bool w 9998 4 _ _ Try.underlying4).trans (by simp)⟩
 ·exact ⟨_, _, part_bool w Try.underlying4 rfl, part_bool w Try.underlying4 rfl, (run_equalIn_bool w 9998 4 _ _ Try.underlying4).trans (by simp)⟩
 ·exact ⟨_, _, part_bool w Try.underlying4 rfl, part_bool w Try.underlying4 rfl, (run_equalIn_bool w 9998 4 _ _ Try.underlying4).trans (by simp)⟩
 ·exact ⟨_, _, part_bool w Try.underlying4 rfl, part_bool w Try.underlying4 rfl, (run_equalIn_bool w 9998 4 _ _ Try.underlying4).trans (by simp)⟩
 ·exact ⟨_, _, part_bool w Try.underlying4 rfl, part_bool w Try.underlying4 rfl, (run_equalIn_bool w 9998 4 _ _ Try.underlying4).trans (by simp)⟩
 ·exact ⟨_, _, part_bool w Try.underlying4 rfl, part_bool w Try.underlying4 rfl, (run_equalIn_bool w 9998 4 _ _ Try.underlying4).trans (by simp)⟩
 ·exact ⟨_, _, part_bool w Try.underlying4 rfl, part_bool w Try.underlying4 rfl, (run_equalIn_bool w 9998 4 _ _ Try.underlying4).trans (by simp)⟩
 ·exact ⟨_, _, part_int w Try.underlying3 rfl, part_int w Try.underlying3 rfl, (run_equalIn_int w 9998 3 _ _ _ _ Try.underlying3).trans (by simp)⟩
 ·refine ⟨_, _, part_arr w Try.underlying23 hik _ _, part_arr w Try.underlying23 hik _ _, ?_⟩
  rw [show Try.prog.cellsOf 23 = 6 by kernel_rfl]
  exact (run_eq_ints (P := Try.prog) w Try.underlying23 Try.underlying5 sizeU8q _ _ hxa1 hya1 9997).trans (by simp)
 ·refine ⟨_, _, part_arr w Try.underlying23 hik _ _, part_arr w Try.underlying23 hik _ _, ?_⟩
  rw [show Try.prog.cellsOf 23 = 6 by kernel_rfl]
  exact (run_eq_ints (P := Try.prog) w Try.underlying23 Try.underlying5 sizeU8q _ _ hxa2 hya2 9997).trans (by simp)
 ·refine ⟨_, _, part_arr w Try.underlying23 hik _ _, part_arr w Try.underlying23 hik _ _, ?_⟩
  rw [show Try.prog.cellsOf 23 = 6 by kernel_rfl]
  exact (run_eq_ints (P := Try.prog) w Try.underlying23 Try.underlying5 sizeU8q _ _ hxa3 hya3 9997).trans (by simp)
 ·refine ⟨_, _, part_arr w Try.underlying23 hik _ _, part_arr w Try.underlying23 hik _ _, ?_⟩
  rw [show Try.prog.cellsOf 23 = 6 by kernel_rfl]
  exact (run_eq_ints (P := Try.prog) w Try.underlying23 Try.underlying5 sizeU8q _ _ hxa4 hya4 9997).trans (by simp)
 ·exact ⟨_, _, part_int w Try.underlying3 rfl, part_int w Try.underlying3 rfl, (run_equalIn_int w 9998 3 _ _ _ _ Try.underlying3).trans (by simp)⟩
 ·exact ⟨_, _, part_int w Try.underlying3 rfl, part_int w Try.underlying3 rfl, (run_equalIn_int w 9998 3 _ _ _ _ Try.underlying3).trans (by simp)⟩
 ·exact ⟨_, _, part_int w Try.underlying3 rfl, part_int w Try.underlying3 rfl, (run_equalIn_int w 9998 3 _ _ _ _ Try.underlying3).trans (by simp)⟩
 ·exact ⟨_, _, part_int w Try.underlying5 rfl, part_int w Try.underlying5 rfl, (run_equalIn_int w 9998 5 _ _ _ _ Try.underlying5).trans (by simp)⟩
 ·exact ⟨_, _, part_bool w Try.underlying4 rfl, part_bool w Try.underlying4 rfl, (run_equalIn_bool w 9998 4 _ _ Try.underlying4).trans (by simp)⟩
 ·exact ⟨_, _, part_bool w Try.underlying4 rfl, part_bool w Try.underlying4 rfl, (run_equalIn_bool w 9998 4 _ _ Try.underlying4).trans (by simp)⟩
theorem neHd (w : World) (x y : Hd) (hx : x.Ok) (hy : y.Ok) : (binOp .neq 28 (.agg (cellsH x).toArray) (.agg (cellsH y).toArray)).run Try.prog w = .ok (.bool (!decide (x = y))) w := by
 rw [run_neq_struct, eqHdIn w x y hx hy]; rfl
structure En where
 addr : List (BitVec 8)
 state : Int
 aid : Int
 caps : Int
 listen : Int
 seen : Int
deriving DecidableEq
structure En.Ok (e : En) : Prop where
 l : e.addr.length = 6
 s0 : 0 ≤ e.state
 s1 : e.state < 256
def cellsE (e : En) : List Value := e.addr.map V8 ++ [.int .u8 e.state, .int .i64 e.aid, .int .i64 e.caps, .int .i64 e.listen, .int .i64 e.seen]
theorem eqEnIn (w : World) (x y : En) (hx : x.Ok) (hy : y.Ok) : (Op.equalIn 10000 39 (.agg (cellsE x).toArray) (.agg (cellsE y).toArray)).run Try.prog w = .ok (decide (x = y)) w := by
 obtain ⟨ik, hik⟩ := info_ex 23 (by kernel_rfl)
 have hxaddr := hx.l; have hyaddr := hy.l
 clear hx hy
 obtain ⟨ad, st, ai, ca, li, se⟩ := x
 obtain ⟨ad', st', ai', ca', li', se'⟩ := y
 dsimp only at hxaddr hyaddr
 obtain ⟨addr_0, addr_1, addr_2, addr_3, addr_4, addr_5, rfl⟩ := six hxaddr
 obtain ⟨addr_0', addr_1', addr_2', addr_3', addr_4', addr_5', rfl⟩ := six hyaddr
 rw [run_equalIn_struct w 9999 39 _ _ (by kernel_rfl) (by kernel_rfl), fields39]
 rw [eqFields_all w 9999 (fun f => if f.offset = 0 then [addr_0, addr_1, addr_2, addr_3, addr_4, addr_5] == [addr_0', addr_1', addr_2', addr_3', addr_4', addr_5'] else if f.offset = 6 then st == st' else if f.offset = 7 then ai == ai' else if f.offset = 8 then ca == ca' else if f.offset = 9 then li == li' else se == se') _ (by decide) fun f hf => ?_]
 ·refine congrArg (fun z => Result.ok z w) (Bool.eq_iff_iff.2 ?_); simp [and_assoc]
 simp only [List.mem_cons, List.not_mem_nil, or_false] at hf
 rcases hf with rfl | rfl | rfl | rfl | rfl | rfl
 ·refine ⟨_, _, part_arr w Try.underlying23 hik _ _, part_arr w Try.underlying23 hik _ _, ?_⟩
  rw [show Try.prog.cellsOf 23 = 6 by kernel_rfl]
  exact (run_eq_ints (P := Try.prog) w Try.underlying23 Try.underlying5 sizeU8q _ _ hxaddr hyaddr 9997).trans (by simp)
 ·exact ⟨_, _, part_int w Try.underlying5 rfl, part_int w Try.underlying5 rfl, (run_equalIn_int w 9998 5 _ _ _ _ Try.underlying5).trans (by simp)⟩
 ·exact ⟨_, _, part_int w Try.underlying3 rfl, part_int w Try.underlying3 rfl, (run_equalIn_int w 9998 3 _ _ _ _ Try.underlying3).trans (by simp)⟩
 ·exact ⟨_, _, part_int w Try.underlying3 rfl, part_int w Try.underlying3 rfl, (run_equalIn_int w 9998 3 _ _ _ _ Try.underlying3).trans (by simp)⟩
 ·exact ⟨_, _, part_int w Try.underlying3 rfl, part_int w Try.underlying3 rfl, (run_equalIn_int w 9998 3 _ _ _ _ Try.underlying3).trans (by simp)⟩
 ·exact ⟨_, _, part_int w Try.underlying3 rfl, part_int w Try.underlying3 rfl, (run_equalIn_int w 9998 3 _ _ _ _ Try.underlying3).trans (by simp)⟩
section
variable {P : Program}
theorem region_z {id : Nat} {Q : Exit → Act → World → Prop} {a : Act} {w0 w : World} {bs : List Bk} {l : List Oper} (H : Kp (Loc w0 w bs)) (n : Nat) (hm : P.follows .mixedOrders = true)
  (hB : flatB l.toArray n = true) (hT : topoB l.toArray (l.take n) = true) (hF : freshB l.toArray n 1000 100000 = true) (hN : n ≤ 1000) (hS : a.tmps.size ≤ 100000)
  (h : ∃ A, (∀ x0, wpQuiet P l.toArray (Cx w x0) (fun a' => a' = A) (l.take n) a) ∧ ∀ w', Kp (Ext w w') → Kp (Loc w0 w' bs) → wpList P l.toArray Q (l.drop n) A w') : (Code.region id l.toArray true).wp P Q a w := by
 obtain ⟨A, h1, h2⟩ := h
 exact region_f n hm hB hT hF hN hS ⟨A, h1, fun x => h2 _ (kp (Ext.more w x)) (kp (H.out.ext (Ext.more w x)))⟩
theorem cx_ext {W w' : World} {x0 : Xtra} (h : Cx W x0 w') : Ext W w' := (Ext.more _ _).trans (ext_of_cx h)
theorem region_za {id : Nat} {Q : Exit → Act → World → Prop} {a : Act} {w0 w : World} {bs : List Bk} {l : List Oper} (H : Kp (Loc w0 w bs)) (n iA dA : Nat) (ty : TypeId) (zs : List Value) (hm : P.follows .mixedOrders = true)
  (hB : flatB l.toArray n = true) (hT : topoB l.toArray ((l.take n).eraseIdx iA) = true) (hF : freshB l.toArray n iA dA = true)
  (hmk : ∀ o, l.toArray[iA]? = some o → o.dst = some dA ∧ o.guard = none ∧ dA < a.tmps.size ∧ ∀ (e : Operand → Value) (w : World), (execOp e o).run P w = .ok (.value (.pointer (some ⟨w.heap.size, 0, none⟩))) (w.alloc (.cells zs.toArray ty))) (hi : iA < n)
  (h : ∃ A, (∀ x0, wpQuiet P l.toArray (Cx w x0) (fun a' => a' = A) ((l.take n).eraseIdx iA) a) ∧ ∀ g w', Kp (w.heap.size ≤ g) → Kp (Ext w w') → Kp (Loc w0 w' ((g, ty, zs) :: bs)) → wpList P l.toArray Q (l.drop n) (A.put (some dA) (.pointer (some ⟨g, 0, none⟩))) w') : (Code.region id l.toArray true).wp P Q a w := by
 obtain ⟨A, h1, h2⟩ := h
 refine region_a n iA dA (.cells zs.toArray ty) hm hB hT hF hmk hi ⟨A, h1, fun x1 x2 => ?_⟩
 have e1 : Ext w (more w x1) := Ext.more w x1
 have e2 : Ext (more w x1) ((more w x1).alloc (.cells zs.toArray ty)) := Ext.alloc _ _
 have e3 := Ext.more ((more w x1).alloc (.cells zs.toArray ty)) x2
 have hx := (e1.trans e2).trans e3
 refine h2 _ _ (kp (Nat.le_add_right _ _)) (kp hx) (kp ((H.out.ext hx).add w.heap.size (fun g hg => ?_) H.out.1.size (Nat.le_add_right _ _) ?_))
 ·obtain ⟨q, hq, rfl⟩ := List.mem_map.1 hg
  exact (H.out.2.2 q hq).2.lt
 ·exact hp_more (hp_at _ _ _ (by rw [more_size]))
variable {o : Oper} {a : Act} {w0 w : World} {x0 : Xtra} {K : Act → Prop} {bs : List Bk}
theorem qz_1 (H : Kp (Loc w0 w bs)) (ty : TypeId) (x : Operand) (ho : o.op = .load ty x) (k : Nat) {g T : Nat} {ps : List Lf} (hi : bs[k]? = some (g, T, cat ps)) (off : Nat)
  (hx : a.eval x = .pointer (some ⟨g, off, none⟩)) (i : Nat) (hf : fat ps off = some i) (v : Value) {hv ho'} (hp : nth ps i = some ⟨1, [v], hv, ho'⟩) {d : TypeDesc} (hu : P.underlying ty = some d) (hd : d.isRow = false)
  (h : K (a.put o.dst v)) : o.quiet P a (Cx w x0) K := by
 refine ⟨v, fun w' hw => ?_, h⟩
 have hc : w'.cell? ⟨g, off, none⟩ = some v := ((H.out.ext (cx_ext hw)).at k hi).cell (cat_cell hf hp)
 unfold Oper.quietAt execOp
 simp only [ho, hx, Instr.loadAt, Instr.sureAddr, Sem.run_bind, Sem.run_pure, Result.andThen_ok, run_loadVar_cell w' g off ty v hc hu hd]
 exact ⟨rfl, rfl⟩
theorem qz_l (H : Kp (Loc w0 w bs)) (ty : TypeId) (x : Operand) (ho : o.op = .load ty x) (k : Nat) {g T : Nat} {cs : List Value} (hi : bs[k]? = some (g, T, cs)) (off : Nat)
  (hx : a.eval x = .pointer (some ⟨g, off, none⟩)) (ds : List Value) (hds : (cs.drop off).take ds.length = ds) {d : TypeDesc} (hu : P.underlying ty = some d) (hd : d.isRow = true) (hz : (P.info? ty).map (·.size) = some ds.length)
  (h : K (a.put o.dst (.agg ds.toArray))) : o.quiet P a (Cx w x0) K := by
 refine ⟨_, fun w' hw => ?_, h⟩
 unfold Oper.quietAt execOp
 simp only [ho, hx, Instr.loadAt, Instr.sureAddr, Sem.run_bind, Sem.run_pure, Result.andThen_ok, run_loadVar_mid w' g off ty ds d (((H.out.ext (cx_ext hw)).at k hi).range hds) hu hd hz]
 exact ⟨rfl, rfl⟩
theorem qz_v (H : Kp (Loc w0 w bs)) (ty : TypeId) (x : Operand) (ho : o.op = .load ty x) (k : Nat) {g T : Nat} {ps : List Lf} (hi : bs[k]? = some (g, T, cat ps)) (off : Nat)
  (hx : a.eval x = .pointer (some ⟨g, off, none⟩)) (i : Nat) (hf : fat ps off = some i) {n : Nat} {cs : List Value} {hn ho'} (hp : nth ps i = some ⟨n, cs, hn, ho'⟩) {d : TypeDesc} (hu : P.underlying ty = some d) (hd : d.isRow = true) (hz : (P.info? ty).map (·.size) = some n)
  (h : K (a.put o.dst (.agg cs.toArray))) : o.quiet P a (Cx w x0) K := qz_l H ty x ho k hi off hx cs (cat_part hf hp) hu hd (by rw [hz, hn]) h
theorem qz_a (H : Kp (Loc w0 w bs)) (ty : TypeId) (x : Operand) (ho : o.op = .load ty x) (k : Nat) {g T : Nat} {ps : List Lf} (hi : bs[k]? = some (g, T, cat ps))
  (hx : a.eval x = .pointer (some ⟨g, 0, none⟩)) {d : TypeDesc} (hu : P.underlying ty = some d) (hd : d.isRow = true) (hz : (P.info? ty).map (·.size) = some (lsum ps))
  (h : K (a.put o.dst (.agg (cat ps).toArray))) : o.quiet P a (Cx w x0) K := qz_l H ty x ho k hi 0 hx (cat ps) (by rw [List.drop_zero, List.take_of_length_le (Nat.le_refl _)]) hu hd (by rw [hz, cat_len]) h
theorem qz_b (b : BinOp) (t u : TypeId) (x y : Operand) (ho : o.op = .binOp b t x y u) (vx vy v : Value) (hx : a.eval x = vx) (hy : a.eval y = vy) (hgm : ∀ w', (eqGuard b t x y vx vy).run P w' = .ok () w') (hrun : ∀ w', (binOp b t vx vy).run P w' = .ok v w')
  (h : K (a.put o.dst v)) : o.quiet P a (Cx w x0) K := by
 refine ⟨v, fun w' hw => ?_, h⟩
 unfold Oper.quietAt
 simp [execOp, ho, hx, hy, hgm, hrun, Result.andThen]
 exact ⟨rfl, rfl⟩
theorem qz_ne (t u : TypeId) (x y : Operand) (ho : o.op = .binOp .neq t x y u) (cx cy : List Value) (b : Bool) (hx : a.eval x = .agg cx.toArray) (hy : a.eval y = .agg cy.toArray) (hg : P.eqGuardType P.depth t = false) (hq : ∀ w', (Op.equalIn 10000 t (.agg cx.toArray) (.agg cy.toArray)).run P w' = .ok b w')
  (h : K (a.put o.dst (.bool (!b)))) : o.quiet P a (Cx w x0) K :=
 qz_b .neq t u x y ho _ _ _ hx hy (fun _ => run_eqGuard_agg _ _ _ _ _ _ _ hg) (fun w' => by rw [run_neq_struct, hq w']; rfl) h
theorem qz_c (ty : TypeId) (x : Operand) (ho : o.op = .load ty x) (b off : Nat) (hx : a.eval x = .pointer (some ⟨b, off, none⟩)) (v : Value) (hc : ∀ w', Ext w w' → w'.cell? ⟨b, off, none⟩ = some v) {d : TypeDesc} (hu : P.underlying ty = some d) (hd : d.isRow = false)
  (h : K (a.put o.dst v)) : o.quiet P a (Cx w x0) K := by
 refine ⟨v, fun w' hw => ?_, h⟩
 unfold Oper.quietAt execOp
 simp only [ho, hx, Instr.loadAt, Instr.sureAddr, Sem.run_bind, Sem.run_pure, Result.andThen_ok, run_loadVar_cell w' b off ty v (hc w' (cx_ext hw)) hu hd]
 exact ⟨rfl, rfl⟩
theorem qz_bd (t : TypeId) (parts : Array (Nat × Operand)) (ho : o.op = .build t parts) (ps : Array (Nat × Value)) (hp : parts.map (fun p => (p.1, a.eval p.2)) = ps) (cs : List Value) (hrun : ∀ w', (Instr.build t ps).run P w' = .ok (.agg cs.toArray) w')
  (h : K (a.put o.dst (.agg cs.toArray))) : o.quiet P a (Cx w x0) K := by
 refine ⟨_, fun w' hw => ?_, h⟩
 unfold Oper.quietAt execOp
 simp only [ho, Sem.run_bind, hp, hrun w', Result.andThen_ok, Sem.run_pure]
 exact ⟨rfl, rfl⟩
end
def setM (w : World) (m : Nat) (o : Obj) : World := { w with heap := w.heap.setIfInBounds m o }
def Mp (w0 w : World) (m : Nat) (es : List MapEntry) : Prop := w0.heap.size ≤ m ∧ w.heap[m]? = some (.map es.toArray es.length)
theorem setM_other {w : World} {m b : Nat} (o : Obj) (h : b ≠ m) : (setM w m o).heap[b]? = w.heap[b]? := by
 unfold setM
 simp only [Array.getElem?_setIfInBounds]
 rw [if_neg (fun e => h e.symm)]
theorem Ext.setM {w0 w : World} {m : Nat} (h : Ext w0 w) (hm : w0.heap.size ≤ m) (o : Obj) : Ext w0 (setM w m o) := by
 have hb := h.below
 refine Ext.of_below ⟨hb.os, hb.tape, hb.output, ?_, fun k hk => ?_⟩
 ·show w0.heap.size ≤ (w.heap.setIfInBounds m o).size
  rw [Array.size_setIfInBounds]; exact hb.size
 ·rw [setM_other o (by omega)]; exact hb.block k hk
theorem Loc.setM {w0 w : World} {bs : List Bk} {m : Nat} {es : List MapEntry} (h : Loc w0 w bs) (hm : Mp w0 w m es) (o : Obj) : Loc w0 (setM w m o) bs := by
 refine ⟨h.1.setM hm.1 o, h.2.1, fun b hb => ⟨(h.2.2 b hb).1, ?_⟩⟩
 have h2 := (h.2.2 b hb).2
 refine (setM_other o ?_).trans h2
 intro e
 have h3 := hm.2
 rw [← e, h2] at h3
 cases h3
theorem Mp.ext {w0 w w' : World} {m : Nat} {es : List MapEntry} (h : Mp w0 w m es) (hx : Ext w w') : Mp w0 w' m es := by
 refine ⟨h.1, ?_⟩
 obtain ⟨x, rfl⟩ := hx
 rw [more_heap w x m (Array.getElem?_eq_some_iff.1 h.2).1]; exact h.2
section
variable {P : Program} {ops : Array Oper} {rest : List Oper} {o : Oper} {a : Act} {w0 w : World} {Q : Exit → Act → World → Prop} {bs : List Bk}
theorem L_mk0 (H : Kp (Loc w0 w bs)) (hg : o.guard = none) (t : TypeId) (ho : o.op = .makeMap t none)
  (h : ∀ m w', Kp (Ext w w') → Kp (Mp w0 w' m []) → Kp (Loc w0 w' bs) → wpList P ops Q rest (a.put o.dst (.map (some m))) w') : wpList P ops Q (o :: rest) a w := by
 refine wpList_plain hg fun K hK => ?_
 unfold Oper.wp execOp
 simp only [ho, Option.map_none, Sem.run_bind, run_makeMap, Result.andThen_ok, Sem.run_pure]
 exact hK _ _ (h _ _ (kp (Ext.alloc w _)) (kp ⟨H.out.1.below.size, hp_new w _⟩) (kp (H.out.ext (Ext.alloc w _))))
theorem L_ins (H : Kp (Loc w0 w bs)) (hg : o.guard = none) (hd : o.dst = none) (t : TypeId) (x y z : Operand) (ho : o.op = .insert t x y z) (K E : TypeId) (hu : P.underlying t = some (.map K E)) {m : Nat} {es : List MapEntry} (HM : Kp (Mp w0 w m es)) (hx : a.eval x = .map (some m)) (k v : Value) (hy : a.eval y = k) (hz : a.eval z = v)
  (hc : ∀ w, (Instr.checkKey false 10000 K k).run P w = .ok () w) (hf : ∀ w, (Instr.findKey K k es).run P w = .ok none w)
  (h : ∀ w', Kp (Mp w0 w' m (es ++ [⟨k, v, es.length⟩])) → Kp (Loc w0 w' bs) → wpList P ops Q rest a w') : wpList P ops Q (o :: rest) a w := by
 refine wpList_plain hg fun K2 hK => ?_
 unfold Oper.wp execOp
 have hm := HM.out.2
 have hl := (Array.getElem?_eq_some_iff.1 hm).1
 simp only [ho, hx, hy, hz, Instr.mapUpdate, Sem.run_bind, run_underlying hu, Result.andThen_ok, MapKept.run_getObj_map hm, hc, hf, MapKept.run_setObj_map _ hm, Sem.run_pure]
 show K2 (a.put o.dst undef) _
 rw [hd]
 refine hK _ _ (h _ (kp ⟨HM.out.1, ?_⟩) (kp (H.out.setM HM.out _)))
 simp [hl]
theorem L_lk (hg : o.guard = none) (t : TypeId) (x y : Operand) (c : Bool) (ho : o.op = .lookup t x y c) (K E : TypeId) (hu : P.underlying t = some (.map K E)) {m : Nat} {es : List MapEntry} (HM : Kp (Mp w0 w m es)) (hx : a.eval x = .map (some m)) (k : Value) (hy : a.eval y = k)
  (hc : ∀ b w, (Instr.checkKey b 10000 K k).run P w = .ok () w) (r : Option (Nat × Value)) (hf : ∀ w, (Instr.findKey K k es).run P w = .ok r w) (z : Value) (hz : ∀ w, (zeroValue E).run P w = .ok z w) (u : Value) (hv : (if c then .tuple #[(r.map (·.2)).getD z, .bool r.isSome] else (r.map (·.2)).getD z) = u)
  (h : wpList P ops Q rest (a.put o.dst u) w) : wpList P ops Q (o :: rest) a w := by
 refine wpList_plain hg fun K2 hK => ?_
 unfold Oper.wp execOp
 have hm := HM.out.2
 subst hv
 cases r with
 | none =>
  simp only [ho, hx, hy, Instr.lookup, Sem.run_bind, run_underlying hu, Result.andThen_ok, MapKept.run_getObj_map hm, hc, hf, hz, Sem.run_pure]
  exact hK _ _ h
 | some q =>
  obtain ⟨i, v⟩ := q
  simp only [ho, hx, hy, Instr.lookup, Sem.run_bind, run_underlying hu, Result.andThen_ok, MapKept.run_getObj_map hm, hc, hf, Sem.run_pure]
  exact hK _ _ h
end
theorem find_u8 {K : TypeId} (hK : Try.prog.underlying K = some (.int .u8)) (r : Int) (es : List (Int × Value)) (w : World) : ∀ n : Nat → Nat, (Instr.findKey K (.int .u8 r) (es.zipIdx.map fun p => ⟨.int .u8 p.1.1, p.1.2, n p.2⟩)).run Try.prog w = .ok ((es.zipIdx.find? fun p => r == p.1.1).map fun p => (p.2, p.1.2)) w := by
 intro n
 have h : ∀ (es : List (Int × Value)) (i j : Nat), Instr.findNow (.int .u8) (.int .u8 r) ((es.zipIdx j).map fun p => ⟨.int .u8 p.1.1, p.1.2, n p.2⟩) i = some (((es.zipIdx i).find? fun p => r == p.1.1).map fun p => (p.2, p.1.2)) := by
  intro es
  induction es with
  | nil => intro i j; rfl
  | cons e es ih =>
   intro i j
   simp only [List.zipIdx_cons, List.map_cons, Instr.findNow, Instr.sameNow, if_true, List.find?_cons]
   cases hq : (r == e.1) with
   | true => rfl
   | false => simp only; rw [ih]
 unfold Instr.findKey
 rw [Sem.run_bind, run_underlying hK w, Result.andThen_ok, h]
 rfl
theorem L_appB {w0 w : World} {bs : List Bk} {ops : Array Oper} {rest : List Oper} {o : Oper} {a : Act} {Q : Exit → Act → World → Prop} (H : Kp (Loc w0 w bs)) (hgd : o.guard = none) (s x : Operand)
  (ho : o.op = .call { callee := .builtin .append, args := #[s, x], argTypes := #[29, 29] })
  (base : Nat) (hb0 : w0.heap.size ≤ base) (hbase : base ≤ w.heap.size) (hlt : ∀ g ∈ bs.map (·.1), g < base) (v : Value) (l : List (BitVec 8)) (hs : a.eval s = v) (hown : w.ownsRow base 5 1 v l.length (l.map V8))
  (vx : Value) (m : List (BitVec 8)) (hx : a.eval x = vx) (hsl : SlB w vx m) (hlen : l.length + m.length ≤ 1000000)
  (h : ∀ v' w', Kp (w'.ownsRow base 5 1 v' (l ++ m).length ((l ++ m).map V8)) → Kp (w.grownBy w' v.ownBlock) → Kp (Loc w0 w' bs) → wpList Try.prog ops Q rest (a.put o.dst v') w') : wpList Try.prog ops Q (o :: rest) a w := by
 obtain ⟨iu, hiu, hu⟩ := info_iu
 refine wpList_append_SlB hgd s x 29 ho base 5 iu Try.underlying29 hiu hu.1 hu.2.1 hu.2.2 v l hs hown vx m hx hsl hlen hbase ?_
 intro v' w' ho1 hg1
 refine h v' w' (kp ho1) (kp hg1) (kp ⟨H.out.1.grown hg1 (fun k hk => Nat.le_trans hb0 (owns_block hown k hk)), H.out.2.1, fun b hb => ⟨(H.out.2.2 b hb).1, ?_⟩⟩)
 have h5 := (H.out.2.2 b hb).2
 have h6 := hlt b.1 (List.mem_map.2 ⟨b, hb, rfl⟩)
 exact (hg1.block b.1 h5.lt (fun e => by have := owns_block hown b.1 e.symm; omega)).trans h5
theorem SlB.blk {w : World} {b off len cap : Nat} {l : List (BitVec 8)} (h : SlB w (.slice (some ⟨b, off, none⟩) len cap) l) (h0 : 0 < len) : b < w.heap.size := by
 rcases h with ⟨rfl, h2 | ⟨a, c, h2⟩⟩ | ⟨b', off', cap', h2, hb, hc⟩
 ·cases h2
 ·cases h2; omega
 ·cases h2; exact hb
theorem SlB.ne {w : World} {ad : Option Addr} {n c : Nat} {l : By} (h : SlB w (.slice ad n c) l) (h0 : l ≠ []) : ∃ b off, ad = some ⟨b, off, none⟩ := by
 cases l with
 | nil => exact absurd rfl h0
 | cons x l => obtain ⟨b, off, h1, _⟩ := h.at 0 x rfl; exact ⟨b, off, h1⟩
theorem SlB.len {w : World} {ad : Option Addr} {n c : Nat} {l : By} (h : SlB w (.slice ad n c) l) : n = l.length := by
 obtain ⟨a, c', e⟩ := h.form
 cases e; rfl
theorem SlB.from {w : World} {b off n c : Nat} {l : By} (h : SlB w (.slice (some ⟨b, off, none⟩) n c) l) (k m c' : Nat) (hm : m = l.length - k) (h0 : 0 < m) : SlB w (.slice (some ⟨b, off + k, none⟩) m c') (l.drop k) := by
 have hn := h.len
 refine .inr ⟨b, off + k, c', by rw [List.length_drop, hm], h.blk (by omega), fun j x hj => ?_⟩
 rw [List.getElem?_drop] at hj
 obtain ⟨b2, o2, h1, h2, h3⟩ := h.at (k + j) x hj
 cases h1
 rw [show off + k + j = off + (k + j) by omega]; exact h3
theorem owns_wroteT {w w' : World} {base E T sz n g : Nat} {v : Value} {xs cs : List Value} (h : w.ownsRow base E sz v n xs) (hw : Wrote w w' g) (hg : Lc w g T cs) (hne : E ≠ T) : w'.ownsRow base E sz v n xs := by
 obtain ⟨ds, rfl⟩ := hw
 obtain ⟨h1, h2 | ⟨b, cap, cur, h3, hb, hh, h4⟩⟩ := h
 ·exact ⟨h1, .inl h2⟩
 ·refine ⟨h1, .inr ⟨b, cap, cur, h3, hb, (setRow_other w g b ds ?_).trans hh, h4⟩⟩
  intro e
  subst e
  have h5 : w.heap[b]? = some (.cells cs.toArray T (0, 0)) := hg
  rw [h5] at hh
  cases hh
  exact hne rfl
theorem Wrote.size {w w' : World} {g : Nat} (h : Wrote w w' g) : w'.heap.size = w.heap.size := by obtain ⟨ds, rfl⟩ := h; exact setRow_size _ _ _
section
variable {P : Program} {ops : Array Oper} {rest : List Oper} {o : Oper} {a : Act} {w0 w : World} {Q : Exit → Act → World → Prop} {bs : List Bk}
theorem ret_f1 {fn : Func} {R : Ending → World → Prop} {p : Tmp} {ty : TypeId} (H : Kp (Loc w0 w bs)) (h : fn.results = #[.cell p ty]) (k : Nat) {g T : Nat} {ps : List Lf} (hi : bs[k]? = some (g, T, cat ps)) (hp : a.tmps.getD p undef = .pointer (some ⟨g, 0, none⟩))
  {d : TypeDesc} (hu : P.underlying ty = some d) (hd : (match d with | .struct _ | .array _ _ => true | _ => false) = true) (hz : (P.info? ty).map (·.size) = some (lsum ps)) (hdf : a.defers = []) (hR : R (.returned (.agg (cat ps).toArray)) w) : bodyPost P fn R .ret a w :=
 ret_row h g T (cat ps).toArray (0, 0) d hp (H.out.at k hi) hu hd (by rw [hz, List.size_toArray, cat_len]) hdf hR
theorem ret_f2 {fn : Func} {R : Ending → World → Prop} {p q : Tmp} {ty : TypeId} (H : Kp (Loc w0 w bs)) (h : fn.results = #[.cell p ty, .tmp q]) (k : Nat) {g T : Nat} {ps : List Lf} (hi : bs[k]? = some (g, T, cat ps)) (hp : a.tmps.getD p undef = .pointer (some ⟨g, 0, none⟩)) (v : Value) (hv : a.tmps.getD q undef = v)
  {d : TypeDesc} (hu : P.underlying ty = some d) (hd : (match d with | .struct _ | .array _ _ => true | _ => false) = true) (hz : (P.info? ty).map (·.size) = some (lsum ps)) (hdf : a.defers = []) (hR : R (.returned (.tuple #[.agg (cat ps).toArray, v])) w) : bodyPost P fn R .ret a w :=
 ret_row2 h g T (cat ps).toArray (0, 0) d hp v hv (H.out.at k hi) hu hd (by rw [hz, List.size_toArray, cat_len]) hdf hR
theorem results_ctt (fn : Func) {p q r : Tmp} {ty : TypeId} (h : fn.results = #[.cell p ty, .tmp q, .tmp r]) (tmps : Array Value) (w : World) (g : Nat) (t : TypeId) (cs : Array Value) (fr : Nat × Nat) (d : TypeDesc)
  (hp : tmps.getD p undef = .pointer (some ⟨g, 0, none⟩)) (v u : Value) (hv : tmps.getD q undef = v) (hr : tmps.getD r undef = u) (hg : w.heap[g]? = some (.cells cs t fr))
  (hu : P.underlying ty = some d) (hd : (match d with | .struct _ | .array _ _ => true | _ => false) = true) (hi : (P.info? ty).map (·.size) = some cs.size) : (results fn tmps).run P w = .ok (.tuple #[.agg cs, v, u]) w := by
 have hp' : tmps[p]?.getD undef = .pointer (some ⟨g, 0, none⟩) := by simpa using hp
 have hv' : tmps[q]?.getD undef = v := by simpa using hv
 have hr' : tmps[r]?.getD undef = u := by simpa using hr
 simp [results, h, hp', hv', hr', asAddr, run_loadVar_row w g t ty cs fr d hg hu hd hi]
theorem ret_f3 {fn : Func} {R : Ending → World → Prop} {p q r : Tmp} {ty : TypeId} (H : Kp (Loc w0 w bs)) (h : fn.results = #[.cell p ty, .tmp q, .tmp r]) (k : Nat) {g T : Nat} {ps : List Lf} (hi : bs[k]? = some (g, T, cat ps)) (hp : a.tmps.getD p undef = .pointer (some ⟨g, 0, none⟩)) (v u : Value) (hv : a.tmps.getD q undef = v) (hr : a.tmps.getD r undef = u)
  {d : TypeDesc} (hu : P.underlying ty = some d) (hd : (match d with | .struct _ | .array _ _ => true | _ => false) = true) (hz : (P.info? ty).map (·.size) = some (lsum ps)) (hdf : a.defers = []) (hR : R (.returned (.tuple #[.agg (cat ps).toArray, v, u])) w) : bodyPost P fn R .ret a w :=
 bodyPost_ret (results_ctt fn h a.tmps w g T (cat ps).toArray (0, 0) d hp v u hv hr (H.out.at k hi) hu hd (by rw [hz, List.size_toArray, cat_len])) hdf hR
end
theorem owns_weak {w : World} {b b' E n sz : Nat} {v : Value} {xs : List Value} (h : w.ownsRow b E sz v n xs) (hb : b' ≤ b) : w.ownsRow b' E sz v n xs := by
 obtain ⟨h1, h2 | ⟨g, cap, cur, h3, h4, h5⟩⟩ := h
 ·exact ⟨h1, .inl h2⟩
 ·exact ⟨h1, .inr ⟨g, cap, cur, h3, Nat.le_trans hb h4, h5⟩⟩
theorem slb1 {w : World} {g T : Nat} {x : Int} (h : Lc w g T [.int .u8 (x % 256)]) : SlB w (.slice (some ⟨g, 0, none⟩) 1 1) [BitVec.ofInt 8 x] :=
 SlB.of_block (l := [BitVec.ofInt 8 x]) (by show _ = some (Obj.cells #[V8 (BitVec.ofInt 8 x)] T (0, 0)); rw [V8_ofInt]; exact h)
theorem owns_form2 {w : World} {base E n sz : Nat} {v : Value} {xs : List Value} (h : w.ownsRow base E sz v n xs) : ∃ a m c, v = .slice a m c := by
 obtain ⟨h1, ⟨h2, h3⟩ | ⟨g, cap, cur, h3, hb, hg, a, b, c, ht⟩⟩ := h
 ·exact ⟨_, _, _, h2⟩
 ·exact ⟨_, _, _, h3⟩
theorem owns_formN {w : World} {base E n sz : Nat} {v : Value} {xs : List Value} (h : w.ownsRow base E sz v n xs) : ∃ a c, v = .slice a n c ∧ n ≤ c := by
 obtain ⟨h1, ⟨h2, h3⟩ | ⟨g, cap, cur, h3, hb, hg, a, b, c, ht⟩⟩ := h
 ·subst h3; exact ⟨_, _, h2, Nat.le_refl _⟩
 ·exact ⟨_, _, h3, a⟩
end Go.Proofs.Ytfecopfofkdnpaa
