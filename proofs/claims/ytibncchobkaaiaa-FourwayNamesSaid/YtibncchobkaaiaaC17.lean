/- Texts of this proof, put together: ApZ, Bld, Msg. -/
import Derived.Test.YtibncchobkaaiaaC11
import Derived.Test.YtibncchobkaaiaaC12
import Derived.Test.YtibncchobkaaiaaC13
import Derived.BigGuardPart
import Derived.Test.YtibncchobkaaiaaC1
namespace Go.Proofs.Ytibncchobkaaiaa
open Go.RowKit
def zs16 : List Value := List.replicate 16 (.int .u8 0)
theorem zero16 : Builtin.zeroCells #[Value.int .u8 0] 16 = zs16.toArray := by kernel_rfl
section
variable {P : Program}
theorem run_append_zeros (w : World) (base : Nat) (t u ty e : TypeId) (i : TypeInfo) (ht : P.underlying t = some (.slice e)) (hu : P.underlying u = some (.int .i64)) (hi : P.info? e = some i) (hz : i.zero = some (.int .u8 0)) (hsize : i.size = 1) (hby : i.bytes = 1)
  (v : Value) (n : Nat) (xs : List Value) (hown : w.ownsRow base e 1 v n xs) (hn0 : 0 < n) (h63 : n ≤ 1000000) (hbase : base ≤ w.heap.size) :
  ∃ v' w', (Builtin.append_ #[t, u] ty #[v, .int .i64 16]).run P w = .ok v' w' ∧ w'.ownsRow base e 1 v' (n + 16) (xs ++ zs16) ∧ w.grownBy w' v.ownBlock := by
 have hlen : (xs ++ zs16).length = (n + 16) * 1 := by rw [List.length_append, hown.1]; simp [zs16]
 have hai : ∀ w, (asInt (.int .i64 16)).run P w = .ok 16 w := fun _ => rfl
 have hwr : IntKind.i64.wrap 16 = 16 := by decide
 rcases hown.2 with ⟨_, h0⟩ | ⟨g, cap, cur, rfl, hbg, hg, hnc, hcm, hcs, htake⟩
 ·omega
 ·by_cases hroom : n + 16 ≤ cap
  ·have hst := run_storeCells_at P g n e zs16 0 cur w hg (by simp [zs16]; omega) (by simp [zs16, Value.oneCell'])
   simp only [Nat.add_zero] at hst
   refine ⟨.slice (some ⟨g, 0, none⟩) (n + 16) cap, w.setRow g (cur.toList.take n ++ zs16 ++ cur.toList.drop (n + zs16.length)).toArray, ?_, ⟨hlen, .inr ⟨g, cap, _, rfl, hbg, setRow_heap w g cur _ e _ hg, hroom, hcm, ?_, ?_⟩⟩, ⟨rfl, rfl, rfl, by simp, fun k _ hk => setRow_other w g k _ (fun e => hk (by simp [Value.ownBlock, e]))⟩⟩
   ·simp [Builtin.append_, run_underlying ht, run_underlying hu, sizeOf, typeInfo, zeroValue, hi, hz, hsize, hby, hroom, hai, hwr, Value.cells, zero16, Addr.add_lit, hst]
   ·simp only [List.size_toArray, List.length_append, List.length_take, List.length_drop, Array.length_toList]
    have : zs16.length = 16 := rfl
    omega
   ·have h1 : cur.toList.take n = xs := by simpa using htake
    rw [h1, ← hlen]
    exact List.take_left
  ·have holds : ∀ j u, xs[j]? = some u → w.cell? ((⟨g, 0, none⟩ : Addr).add j) = some u := hown.cells (g := g) rfl
   have hfo := run_firstCells_some (P := P) w.drew 1 n ⟨g, 0, none⟩ n cap xs hown.1 (by simpa using holds)
   have hn : ¬ (n + 16 ≤ cap) := by omega
   have h63' : ¬ (9223372036854775807 < ((n : Int) + (max 16 0 : Int))) := by omega
   have h48' : ¬ (281474976710656 < Builtin.nextslicecap (n + 16) cap) := by
    have := growslice_fits (need := n + 16) (old := cap) (bytes := 1) (by omega) (by omega)
    omega
   have hge := grownCap_ge w (n + 16) cap e
   have hcm2 : grownCap w (n + 16) cap e ≤ maxLen := grownCap_le_maxLen w (n + 16) cap e (by unfold maxLen; omega)
   refine ⟨.slice (some ⟨w.heap.size, 0, none⟩) (n + 16) (grownCap w (n + 16) cap e), w.drew.alloc (.cells (xs.toArray ++ zs16.toArray ++ Builtin.zeroCells #[.int .u8 0] (grownCap w (n + 16) cap e - (n + 16))) e), ?_, ⟨hlen, .inr ⟨w.heap.size, _, _, rfl, hbase, heap_alloc_new w.drew _, hge, hcm2, ?_, ?_⟩⟩, ⟨rfl, rfl, rfl, by simp, fun k hk _ => heap_alloc_old w.drew _ hk⟩⟩
   ·simp [Builtin.append_, run_underlying ht, run_underlying hu, sizeOf, typeInfo, zeroValue, hi, hz, hsize, hby, hn, h63', h48', hai, hwr, Value.cells, zero16, Question.forced, hfo, newRow, grownCap]
    congr 2
    apply Array.ext'
    simp [List.append_assoc]
   ·simp only [Array.size_append, List.size_toArray, size_zeroCells, hown.1]
    have : zs16.length = 16 := rfl
    rw [this]; simp; omega
   ·simp only [Array.toList_append, List.append_assoc]
    rw [← List.append_assoc, ← hlen]
    exact List.take_left
theorem L_appZ {w0 w : World} {bs : List Bk} {ops : Array Oper} {rest : List Oper} {o : Oper} {a : Act} {Q : Exit → Act → World → Prop} (H : Kp (Loc w0 w bs)) (hgd : o.guard = none) (s : Operand)
  (ho : o.op = .call { callee := .builtin .append, args := #[s, .const (.int .i64 16)], argTypes := #[33, 3] })
  (base : Nat) (hb0 : w0.heap.size ≤ base) (hbase : base ≤ w.heap.size) (hlt : ∀ g ∈ bs.map (·.1), g < base) (v : Value) (l : List (BitVec 8)) (hs : a.eval s = v) (hown : w.ownsRow base 5 1 v l.length (l.map V8)) (h0 : 0 < l.length) (hlen : l.length ≤ 1000000)
  (h : ∀ v' w', Kp (w'.ownsRow base 5 1 v' (l ++ List.replicate 16 0#8).length ((l ++ List.replicate 16 0#8).map V8)) → Kp (w.grownBy w' v.ownBlock) → Kp (Loc w0 w' bs) → wpList Try.prog ops Q rest (a.put o.dst v') w') : wpList Try.prog ops Q (o :: rest) a w := by
 obtain ⟨iu, hiu, hu⟩ := info_iu
 obtain ⟨v', w', hr, h2, hg1⟩ := run_append_zeros (P := Try.prog) w base 33 3 o.type 5 iu Try.underlying33 Try.underlying3 hiu hu.1 hu.2.1 hu.2.2 v l.length (l.map V8) hown h0 hlen hbase
 refine wpList_plain hgd fun K hK => ?_
 unfold Oper.wp execOp
 simp only [ho, resolve, invoke, builtin, Sem.run_bind, Sem.run_pure, Result.andThen_ok, List.map_toArray, List.map_cons, List.map_nil, hs]
 rw [show a.eval (.const (.int .i64 16)) = .int .i64 16 from rfl, hr]
 refine hK _ _ (h v' w' (kp ?_) (kp hg1) (kp ⟨H.out.1.grown hg1 (fun k hk => Nat.le_trans hb0 (owns_block hown k hk)), H.out.2.1, fun b hb => ⟨(H.out.2.2 b hb).1, ?_⟩⟩))
 ·have e1 : (l ++ List.replicate 16 0#8).length = l.length + 16 := by simp
  have e2 : (l ++ List.replicate 16 0#8).map V8 = l.map V8 ++ zs16 := by rw [List.map_append]; rfl
  rw [e1, e2]; exact h2
 ·have h5 := (H.out.2.2 b hb).2
  have h6 := hlt b.1 (List.mem_map.2 ⟨b, hb, rfl⟩)
  exact (hg1.block b.1 h5.lt (fun e => by have := owns_block hown b.1 e.symm; omega)).trans h5
theorem wpList_append_full {w : World} {ops : Array Oper} {rest : List Oper} {o : Oper} {a : Act} {Q : Exit → Act → World → Prop} (hgd : o.guard = none) (s x : Operand)
  (ho : o.op = .call { callee := .builtin .append, args := #[s, x], argTypes := #[33, 33] })
  {g T : Nat} {l : List (BitVec 8)} (hL : Lc w g T (l.map V8)) {n : Nat} (hn : n = l.length) (hs : a.eval s = .slice (some ⟨g, 0, none⟩) n n) {y : Value} {m : List (BitVec 8)} (hx : a.eval x = y) (hy : SlB w y m) (h0 : 0 < m.length) (hlen : l.length + m.length ≤ 1000000)
  (h : ∀ v' w', w'.ownsRow w.heap.size 5 1 v' (l ++ m).length ((l ++ m).map V8) → Ext w w' → wpList Try.prog ops Q rest (a.put o.dst v') w') : wpList Try.prog ops Q (o :: rest) a w := by
 obtain ⟨iu, hiu, hu⟩ := info_iu
 rcases hy with ⟨rfl, _⟩ | ⟨b, off, cap, rfl, hb, hc⟩
 ·simp at h0
 subst hn
 have holds : ∀ j v, (l.map V8)[j]? = some v → w.cell? ((⟨g, 0, none⟩ : Addr).add j) = some v := fun j v hj => by
  rw [Addr.add_mid, Nat.zero_add]; exact hL.cell hj
 have hnews : ∀ j v, (m.map V8)[j]? = some v → w.cell? ((⟨b, off, none⟩ : Addr).add j) = some v := fun j v hj => by
  rw [Addr.add_mid]
  rw [List.getElem?_map] at hj
  cases hm : m[j]? with
  | none => simp [hm] at hj
  | some z => simp [hm] at hj; subst hj; exact hc j z hm
 have hr := run_append_grow (P := Try.prog) w 33 o.type 5 iu (.int .u8 0) Try.underlying33 hiu hu.1 ⟨g, 0, none⟩ l.length l.length (l.map V8) (by simp [hu.2.1]) holds ⟨b, off, none⟩ m.length cap (m.map V8) (by simp [hu.2.1]) hnews (by omega) (by omega) (growslice_fits (by omega) (by rw [hu.2.2]; omega))
 refine wpList_plain hgd fun K hK => ?_
 unfold Oper.wp execOp
 simp only [ho, resolve, invoke, builtin, Sem.run_bind, Sem.run_pure, Result.andThen_ok, List.map_toArray, List.map_cons, List.map_nil, hs, hx, hr]
 have hge := grownCap_ge w (l.length + m.length) l.length 5
 have hcm := grownCap_le_maxLen w (l.length + m.length) l.length 5 (by unfold maxLen; omega)
 refine hK _ _ (h _ _ ⟨by simp, .inr ⟨w.heap.size, _, _, by rw [List.length_append], Nat.le_refl _, heap_alloc_new w.drew _, by rw [List.length_append]; exact hge, hcm, ?_, ?_⟩⟩ ((Ext.drew w).trans (Ext.alloc _ _)))
 ·simp only [Array.size_append, List.size_toArray, size_zeroCells, List.length_map, Value.cells]
  simp; omega
 ·simp only [Array.toList_append, List.append_assoc, List.map_append]
  rw [← List.append_assoc]
  exact List.take_left' (by simp)
end
end Go.Proofs.Ytibncchobkaaiaa
namespace Go.Proofs.Ytibncchobkaaiaa
open Go.RowKit
theorem foldl_set (off : Nat) : ∀ (vs : List Value) (k : Nat) (cs : Array Value), off + k + vs.length ≤ cs.size →
  ((vs.zipIdx k).foldl (fun cs (p : Value × Nat) => cs.setIfInBounds (off + p.2) p.1) cs).toList = cs.toList.take (off + k) ++ vs ++ cs.toList.drop (off + k + vs.length)
 | [], k, cs, _ => by simp
 | v :: vs, k, cs, h => by
  have h1 : off + k < cs.size := by simp at h; omega
  rw [List.zipIdx_cons, List.foldl_cons, foldl_set off vs (k + 1) _ (by simp at h ⊢; omega)]
  have e : (cs.setIfInBounds (off + k) v).toList = cs.toList.take (off + k) ++ (v :: cs.toList.drop (off + k + 1)) := by
   rw [Array.toList_setIfInBounds, List.set_eq_take_append_cons_drop, if_pos (by simpa using h1)]
  have hl : (cs.toList.take (off + k)).length = off + k := by simp; omega
  rw [e, show off + (k + 1) = (cs.toList.take (off + k)).length + 1 by omega, Nat.add_assoc (cs.toList.take (off + k)).length, List.take_length_add_append, List.drop_length_add_append, Nat.add_comm 1 vs.length]
  simp only [List.take_succ_cons, List.take_zero, List.drop_succ_cons, List.drop_drop, List.append_assoc, List.length_cons, List.cons_append, List.nil_append]
  rw [show off + k + 1 + vs.length = off + k + (vs.length + 1) by omega]
theorem fill_cat (place : Nat → Option (Nat × Nat)) (ps : List Lf) (i : Nat) (v : Value) (rest : List (Nat × Value)) (off k n : Nat) (qs : List Lf) (hv : v.cells = (cat qs).toArray) (hp : place i = some (off, lsum qs)) (hf : fat ps off = some k) (hn : lsum ((ps.drop k).take n) = lsum qs) (new : List Lf) (hnew : pput ps k n qs = new) :
  Instr.fill place (cat ps).toArray ((i, v) :: rest) = Instr.fill place (cat new).toArray rest := by
 have hfit := put_fits n hf
 rw [hn] at hfit
 have h1 : v.cells.size = lsum qs := by rw [hv, List.size_toArray, cat_len]
 conv => lhs; unfold Instr.fill
 simp only [hp, h1]
 rw [if_neg (by simp; omega)]
 congr 1
 have h2 := foldl_set off (cat qs) 0 (cat ps).toArray (by rw [cat_len]; simp; omega)
 rw [hv, ← hnew, ← cat_put n hf hn]
 apply Array.toList_inj.1
 rw [← Array.foldl_toList]
 simpa using h2
theorem run_build {P : Program} (t : TypeId) (parts : Array (Nat × Value)) (w : World) (zs : List Lf) (hz : (zeroValue t).run P w = .ok (.agg (cat zs).toArray) w) (fields : Array Field) (hu : P.underlying t = some (.struct fields)) (pl : Array (Nat × Nat)) (hp : (fields.mapM fun f => (do pure (f.offset, ← sizeOf f.type) : Sem (Nat × Nat))).run P w = .ok pl w)
  (new : List Lf) (hf : Instr.fill (pl[·]?) (cat zs).toArray parts.toList = some (cat new).toArray) : (Instr.build t parts).run P w = .ok (.agg (cat new).toArray) w := by
 unfold Instr.build
 simp only [Sem.run_bind, hz, Result.andThen_ok, run_underlying hu, hp, Value.cells, hf, Sem.run_pure]
theorem build_Fw (role : Int) (own peer : Vc 6) (master mine : Vc 16) (gid : Int) (gkey : Vc 16) (w : World) :
  (Instr.build 32 #[(0, .int .u8 role), (2, .agg (own.1.map V8).toArray), (3, .agg (peer.1.map V8).toArray), (4, .agg (master.1.map V8).toArray), (5, .agg (mine.1.map V8).toArray), (11, .agg (cat (partsG gid gkey)).toArray)]).run Try.prog w = .ok (.agg (cat (partsF { fw0 with role := role, own := own, peer := peer, master := master, mine := mine, gid := gid, gkey := gkey })).toArray) w := by
 refine run_build _ _ w (partsF fw0) (by kernel_rfl) _ Try.underlying32 #[(0, 1), (1, 1), (2, 6), (8, 6), (14, 16), (30, 16), (46, 16), (62, 1), (63, 1), (64, 1), (65, 48), (113, 17), (130, 1)] (by kernel_rfl) _ ?_
 show Instr.fill _ _ [_, _, _, _, _, _] = _
 rw [fill_cat _ _ 0 _ _ 0 0 1 [Lf.i .u8 role] rfl rfl rfl rfl _ rfl, fill_cat _ _ 2 _ _ 2 2 1 [Lf.v own] rfl rfl rfl rfl _ rfl, fill_cat _ _ 3 _ _ 8 3 1 [Lf.v peer] rfl rfl rfl rfl _ rfl, fill_cat _ _ 4 _ _ 14 4 1 [Lf.v master] rfl rfl rfl rfl _ rfl, fill_cat _ _ 5 _ _ 30 5 1 [Lf.v mine] rfl rfl rfl rfl _ rfl, fill_cat _ _ 11 _ _ 113 13 2 (partsG gid gkey) rfl rfl rfl rfl _ rfl]
 rfl
theorem build_M (kind count : Int) (nonce : Vc 16) (w : World) :
  (Instr.build 78 #[(0, .int .u8 kind), (1, .int .i64 count), (2, .agg (nonce.1.map V8).toArray)]).run Try.prog w = .ok (.agg (cat (partsM kind count nonce none 0 0)).toArray) w := by
 refine run_build _ _ w (partsM 0 0 (zv 16) none 0 0) (by kernel_rfl) _ Try.underlying78 #[(0, 1), (1, 1), (2, 16), (18, 1)] (by kernel_rfl) _ ?_
 show Instr.fill _ _ [_, _, _] = _
 rw [fill_cat _ _ 0 _ _ 0 0 1 [Lf.i .u8 kind] rfl rfl rfl rfl _ rfl, fill_cat _ _ 1 _ _ 1 1 1 [Lf.i .i64 count] rfl rfl rfl rfl _ rfl, fill_cat _ _ 2 _ _ 2 2 1 [Lf.v nonce] rfl rfl rfl rfl _ rfl]
 rfl
theorem build_M2 (kind count : Int) (w : World) :
  (Instr.build 78 #[(0, .int .u8 kind), (1, .int .i64 count)]).run Try.prog w = .ok (.agg (cat (partsM kind count (zv 16) none 0 0)).toArray) w := by
 refine run_build _ _ w (partsM 0 0 (zv 16) none 0 0) (by kernel_rfl) _ Try.underlying78 #[(0, 1), (1, 1), (2, 16), (18, 1)] (by kernel_rfl) _ ?_
 show Instr.fill _ _ [_, _] = _
 rw [fill_cat _ _ 0 _ _ 0 0 1 [Lf.i .u8 kind] rfl rfl rfl rfl _ rfl, fill_cat _ _ 1 _ _ 1 1 1 [Lf.i .i64 count] rfl rfl rfl rfl _ rfl]
 rfl
end Go.Proofs.Ytibncchobkaaiaa
namespace Go.Proofs.Ytibncchobkaaiaa
open Go.RowKit
theorem owns_lit {w : World} {g base : Nat} {l : By} (h : Lc w g 5 (l.map V8)) (hb : base ≤ g) (n : Nat) (hn : n = l.length) (hm : n ≤ 1000000) : w.ownsRow base 5 1 (.slice (some ⟨g, 0, none⟩) n n) l.length (l.map V8) := by
 subst hn
 exact ⟨by simp, .inr ⟨g, l.length, (l.map V8).toArray, rfl, hb, h, Nat.le_refl _, by unfold maxLen; omega, by simp, by simp [List.take_of_length_le]⟩⟩
theorem owns_weak {w : World} {b b' E n : Nat} {v : Value} {xs : List Value} (h : w.ownsRow b E 1 v n xs) (hb : b' ≤ b) : w.ownsRow b' E 1 v n xs := by
 obtain ⟨h1, h2 | ⟨g, cap, cur, h3, h4, h5⟩⟩ := h
 ·exact ⟨h1, .inl h2⟩
 ·exact ⟨h1, .inr ⟨g, cap, cur, h3, Nat.le_trans hb h4, h5⟩⟩
theorem V8_kind {k : Int} (h0 : 0 ≤ k) (h1 : k < 256) : V8 (BitVec.ofInt 8 k) = .int .u8 k := by unfold V8; rw [wI_ofInt8, Int.emod_eq_of_lt h0 h1]
theorem slb1 {w : World} {g T : Nat} {x : Int} (h : Lc w g T [.int .u8 (x % 256)]) : SlB w (.slice (some ⟨g, 0, none⟩) 1 1) [BitVec.ofInt 8 x] :=
 SlB.of_block (l := [BitVec.ofInt 8 x]) (by show _ = some (Obj.cells #[V8 (BitVec.ofInt 8 x)] T (0, 0)); rw [V8_ofInt]; exact h)
theorem slb2 {w : World} {g T : Nat} {x y : Int} (h : Lc w g T [.int .u8 (x % 256), .int .u8 (y % 256)]) : SlB w (.slice (some ⟨g, 0, none⟩) 2 2) [BitVec.ofInt 8 x, BitVec.ofInt 8 y] :=
 SlB.of_block (l := [BitVec.ofInt 8 x, BitVec.ofInt 8 y]) (by show _ = some (Obj.cells #[V8 (BitVec.ofInt 8 x), V8 (BitVec.ofInt 8 y)] T (0, 0)); rw [V8_ofInt, V8_ofInt]; exact h)
def hdTo (kind count : Int) (j : Nat) : By := BitVec.ofInt 8 kind :: (le8 count).take j
theorem hdTo_len (kind count : Int) (j : Nat) (h : j ≤ 8) : (hdTo kind count j).length = j + 1 := by simp [hdTo, le8_len]; omega
theorem hdTo_succ (kind count : Int) (j : Nat) (h : j < 8) : hdTo kind count (j + 1) = hdTo kind count j ++ [BitVec.ofInt 8 (count / 2 ^ (8 * j))] := by
 unfold hdTo
 have : (le8 count)[j]? = some (BitVec.ofInt 8 (count / 2 ^ (8 * j))) := by simp [le8, h]
 rw [List.take_add_one, this]; rfl
theorem hdTo_8 (kind count : Int) : hdTo kind count 8 = BitVec.ofInt 8 kind :: le8 count := by
 unfold hdTo; rw [List.take_of_length_le (by rw [le8_len]; exact Nat.le_refl _)]
set_option maxRecDepth 4000 in
set_option maxHeartbeats 1600000 in
theorem mbytes_any (kind count : Int) (hk : 0 ≤ kind) (hk1 : kind < 256) (nonce : Vc 16) (ad : Option Addr) (n c : Nat) (data : By) (hd : data.length ≤ 100000) (w : World) (hs : SlB w (.slice ad n c) data) :
  Calls Try.prog 65 #[.agg (cat (partsM kind count nonce ad n c)).toArray] w (RetO (frontF kind count nonce.1 data) w) := by
 have HL := kp hs.len
 have H := kp (Loc.start w)
 have HS := kp hs
 have HVK := kp (V8_kind hk hk1)
 have HD := kp hd
 clear hs hk hk1 hd
 go_enter Try.func65, Try.ntmps65
 go_wp2_with (first | ((with_reducible show wpList _ _ _ (Oper.mk (some 1) (Op.box 78 _) _ _ _ _ :: _) _ _); (refine L_box H rfl 78 _ rfl (cat (partsM kind count nonce ad n c)) rfl ?_); clear H; intro g1 w1 HGg1 HEg1 H; simp only [Act.put, sbA, szA, ssA]) | ((with_reducible refine isLd 5 ?_); (refine L_f1 H rfl 5 _ rfl 0 rfl _ rfl _ rfl _ rfl Try.underlying5 rfl ?_); simp only [Act.put, sbA, szA, ssA]) | ((with_reducible show wpList _ _ _ (Oper.mk (some 7) (Op.buildSlice 33 _ _) _ _ _ _ :: _) _ _); (refine L_bs H (by kernel_rfl) 33 1 _ rfl (#[(0, .int .u8 kind)]) (by kernel_rfl) 5 ([.int .u8 kind]) (fun _ => by kernel_rfl) ?_); clear H; intro g7 w7 HGg7 HEg7 H; simp only [Act.put, sbA, szA, ssA]))
 have h1 := HGg1.out
 have h2 := HEg1.out.size
 have h3 : g7 ≠ g1 := by have := H.out.2.1; simpa using this
 have h4 := HGg7.out
 have h5 := HEg7.out.size
 have HO := kp (show w7.ownsRow (g1 + 1) 5 1 (.slice (some ⟨g7, 0, none⟩) 1 1) (hdTo kind count 0).length ((hdTo kind count 0).map V8) from owns_lit (by
  show Lc w7 g7 5 [V8 (BitVec.ofInt 8 kind)]
  rw [HVK.out]; exact H.out.at 0 rfl) (by omega) 1 rfl (by omega))
 have HB1 := kp (show w.heap.size ≤ g1 + 1 by omega)
 have H2 := kp H.out.tl
 clear H h1 h2 h3 h4 h5
 have H := H2
 clear H2
 go_loopw [3, 8] (fun b i wr => ∃ j : Nat, j ≤ 8 ∧ i = .int .i64 j ∧ Kp (wr.ownsRow (g1 + 1) 5 1 b (hdTo kind count j).length ((hdTo kind count j).map V8)) ∧ Kp (Loc w wr [(g1, 78, cat (partsM kind count nonce ad n c))])) (fun _ i _ => 8 - (intOf i).toNat)
 case atStart => exact ⟨0, by omega, rfl, HO, H⟩
 case round =>
  obtain ⟨j, hj, rfl, HO, H⟩ := hrel
  have hgl := kp (H.out.lt 0 rfl)
  have HLN := kp (hdTo_len kind count j hj)
  by_cases hlt : j < 8
  ·have HLS := kp (hdTo_succ kind count j hlt)
   have HVJ := kp (V8_ofInt (count / 2 ^ (8 * j)))
   go_wp2_with (first | ((with_reducible refine isLd 3 ?_); (refine L_f1 H rfl 3 _ rfl 0 rfl _ rfl _ rfl _ rfl Try.underlying3 rfl ?_); simp only [Act.put, sbA, szA, ssA]) | ((with_reducible show wpList _ _ _ (Oper.mk (some 18) (Op.buildSlice 33 _ _) _ _ _ _ :: _) _ _); (refine L_bs H (by kernel_rfl) 33 1 _ rfl (#[(0, .int .u8 (count / 2 ^ (8 * j) % 256))]) (by kernel_rfl) 5 ([.int .u8 (count / 2 ^ (8 * j) % 256)]) (fun _ => by kernel_rfl) ?_); clear H; intro g18 w18 HGg18 HEg18 H; simp only [Act.put, sbA, szA, ssA]) | (at_builtin; (have HSX := kp (slb1 (H.out.at 0 rfl)); have HOX2 := kp (owns_ext HO.out HEg18.out); have H2 := kp H.out.tl; clear H; have H := H2; clear H2; refine L_appB H rfl _ _ rfl (g1 + 1) (by have q1 := HB1.out; have q2 := hgl.out; have q3 := HEg18.out.size; omega) (by have q1 := HB1.out; have q2 := hgl.out; have q3 := HEg18.out.size; omega) (by intro zz hz; simp at hz; have q1 := HB1.out; have q2 := hgl.out; have q3 := HEg18.out.size; omega) _ _ rfl HOX2.out _ _ rfl HSX.out ((by rw [HLN.out]; simp; omega)) ?_; clear H HSX HOX2; intro vb wb HO2 HGwb H; simp only [Act.put, sbA, szA, ssA])))
   go_roundw
   case rel => exact ⟨j + 1, by omega, by go_num, kp (by rw [HLS.out]; exact HO2.out), H⟩
   case measure => simp [intOf]; omega
  ·obtain rfl : j = 8 := by omega
   have HLN2 := kp (hdTo_8 kind count)
   rw [HLN2.out] at HO
   have HLB := kp (show (BitVec.ofInt 8 kind :: le8 count).length = 9 by simp [le8_len])
   have HNL := kp nonce.2
   have HFR := kp (show frontF kind count nonce.1 data = BitVec.ofInt 8 kind :: le8 count ++ nonce.1 ++ [BitVec.ofInt 8 data.length, BitVec.ofInt 8 ((data.length : Int) / 256)] ++ data by simp [frontF])
   go_wp2_with (first | ((with_reducible refine isLd 33 ?_); (refine L_f1 H rfl 33 _ rfl 0 rfl _ rfl _ rfl _ rfl Try.underlying33 rfl ?_); simp only [Act.put, sbA, szA, ssA]) | (at_builtin; (have HSX := kp (SlB_part H.out 0 rfl 2 2 rfl rfl 16); have HOX2 := HO; refine L_appB H rfl _ _ rfl (g1 + 1) (by have q1 := HB1.out; have q2 : g1 < _ := H.out.lt 0 rfl; omega) (by have q1 := HB1.out; have q2 : g1 < _ := H.out.lt 0 rfl; omega) (by intro zz hz; simp at hz; have q1 := HB1.out; have q2 : g1 < _ := H.out.lt 0 rfl; omega) _ _ rfl HOX2.out _ _ rfl HSX.out ((by rw [HLB.out, HNL.out]; decide)) ?_; clear H HSX HOX2; intro vb wb HO2 HGwb H; simp only [Act.put, sbA, szA, ssA])) | ((with_reducible show wpList _ _ _ (Oper.mk (some 35) (Op.buildSlice 33 _ _) _ _ _ _ :: _) _ _); (refine L_bs H (by kernel_rfl) 33 2 _ rfl (#[(0, .int .u8 ((n : Int) % 256)), (1, .int .u8 ((n : Int) / 256 % 256))]) (by kernel_rfl) 5 ([.int .u8 ((n : Int) % 256), .int .u8 ((n : Int) / 256 % 256)]) (fun _ => by kernel_rfl) ?_); clear H; intro g35 w35 HGg35 HEg35 H; simp only [Act.put, sbA, szA, ssA]) | (at_builtin; (have HSX := kp (slb2 (H.out.at 0 rfl)); have HOX2 := kp (owns_ext HO2.out HEg35.out); have H2 := kp H.out.tl; clear H; have H := H2; clear H2; refine L_appB H rfl _ _ rfl (g1 + 1) (by have q1 := HB1.out; have q2 : g1 < _ := H.out.lt 0 rfl; omega) (by have q1 := HB1.out; have q2 : g1 < _ := H.out.lt 0 rfl; omega) (by intro zz hz; simp at hz; have q1 := HB1.out; have q2 : g1 < _ := H.out.lt 0 rfl; omega) _ _ rfl HOX2.out _ _ rfl HSX.out ((by rw [List.length_append, HLB.out, HNL.out]; simp)) ?_; clear H HSX HOX2; intro vc wc HO3 HGwc H; simp only [Act.put, sbA, szA, ssA])) | (at_builtin; (have HSX := kp (HS.out.ext H.out.1); have HOX2 := HO3; refine L_appB H rfl _ _ rfl (g1 + 1) (by have q1 := HB1.out; have q2 : g1 < _ := H.out.lt 0 rfl; omega) (by have q1 := HB1.out; have q2 : g1 < _ := H.out.lt 0 rfl; omega) (by intro zz hz; simp at hz; have q1 := HB1.out; have q2 : g1 < _ := H.out.lt 0 rfl; omega) _ _ rfl HOX2.out _ _ rfl HSX.out ((by rw [List.length_append, List.length_append, HLB.out, HNL.out]; have := HD.out; simp; omega)) ?_; clear H HSX HOX2; intro vd wd HO4 HGwd H; simp only [Act.put, sbA, szA, ssA])))
   go_ret
   rw [HL.out, ← HFR.out] at HO4
   exact ⟨_, rfl, owns_weak HO4.out HB1.out, H.out.1⟩
theorem front_short (kind count : Int) (nonce : Vc 16) {data : By} (hd : data.length ≤ 100000) : (frontF kind count nonce.1 data).length ≤ 200000 ∧ 0 < (frontF kind count nonce.1 data).length := by
 rw [frontF_len _ _ _ _ nonce.2]; omega
theorem signed_1 (k : By) (count : Int) (nonce data : By) : signedF k 1 count nonce data = frontF 1 count nonce data ++ List.replicate 16 0#8 := by simp [signedF, zv]
theorem signed_n (k : By) {kind : Int} (h : kind ≠ 1) (count : Int) (nonce data : By) : signedF k kind count nonce data = frontF kind count nonce data ++ macF k (frontF kind count nonce data) := by simp [signedF, h]
set_option maxRecDepth 4000 in
set_option maxHeartbeats 1600000 in
theorem signed_any (k : Vc 16) (kind count : Int) (hk : 0 ≤ kind) (hk1 : kind < 256) (nonce : Vc 16) (ad : Option Addr) (n c : Nat) (data : By) (hd : data.length ≤ 100000) (w : World) (hs : SlB w (.slice ad n c) data) :
  Calls Try.prog 47 #[.agg (cat (partsM kind count nonce ad n c)).toArray, .agg (k.1.map V8).toArray] w (RetO (signedF k.1 kind count nonce.1 data) w) := by
 have HL := kp hs.len
 have H := kp (Loc.start w)
 have HS := kp hs
 have HFL := kp (front_short kind count nonce hd)
 have HB := kp (fun w hs => mbytes_any kind count hk hk1 nonce ad n c data hd w hs)
 have HM := kp (fun v w hs => mac_any k.1 (frontF kind count nonce.1 data) k.2 (by have := HFL.out.1; omega) v w hs)
 have HML := kp (macF_len k.1 (frontF kind count nonce.1 data))
 have HSN := kp (fun h : kind ≠ 1 => signed_n k.1 h count nonce.1 data)
 have HS1 := kp (signed_1 k.1 count nonce.1 data)
 clear hs hk hk1 hd
 go_enter Try.func47, Try.ntmps47
 generalize h3 : ((Code.region 3 _ _ : Code).seq _) = R3
 generalize h4 : (Code.region 4 _ _ : Code) = R4
 go_wp2_with (first | ((with_reducible show wpList _ _ _ (Oper.mk (some 2) (Op.box 78 _) _ _ _ _ :: _) _ _); (refine L_box H rfl 78 _ rfl (cat (partsM kind count nonce ad n c)) rfl ?_); clear H; intro g2 w2 HGg2 HEg2 H; simp only [Act.put, sbA, szA, ssA]) | ((with_reducible show wpList _ _ _ (Oper.mk (some 3) (Op.box 25 _) _ _ _ _ :: _) _ _); (refine L_box H rfl 25 _ rfl (cat ([Lf.v k])) rfl ?_); clear H; intro g3 w3 HGg3 HEg3 H; simp only [Act.put, sbA, szA, ssA]) | ((with_reducible refine isLd 78 ?_); (refine L_fa H rfl 78 _ rfl 1 rfl rfl Try.underlying78 rfl (by kernel_rfl) ?_); simp only [Act.put, sbA, szA, ssA]) | (go_at_call 65; refine (HB.out _ (HS.out.ext H.out.1)).mono ?_; rintro e wa ⟨v, rfl, ho, hx⟩; have HO := kp ho; have HLT := kp (H.out.lt 0 rfl); have HLU := kp (H.out.lt 1 rfl); clear ho; have H2 := kp (H.out.ext hx); have HXC := kp hx; clear H hx; have H := H2; clear H2) | ((with_reducible refine isLd 5 ?_); (refine L_f1 H rfl 5 _ rfl 1 rfl _ rfl _ rfl _ rfl Try.underlying5 rfl ?_); simp only [Act.put, sbA, szA, ssA]))
 ·rename (kind == 1) = true => hk1
  have hk2 : kind = 1 := by simpa using hk1
  clear hk1
  subst hk2
  subst h3
  have HX0 := HXC
  go_wp2_with (at_builtin; refine L_appZ H rfl _ rfl (w3.heap.size) (by have q1 : g3 < _ := HLT.out; have q2 : g2 < _ := HLU.out; have q3 := H.out.1.size; have q4 := HEg2.out.size; have q5 := HEg3.out.size; have q6 := HX0.out.size; omega) (by have q1 : g3 < _ := HLT.out; have q2 : g2 < _ := HLU.out; have q3 := H.out.1.size; have q4 := HEg2.out.size; have q5 := HEg3.out.size; have q6 := HX0.out.size; omega) (by intro zz hz; simp at hz; have q1 : g3 < _ := HLT.out; have q2 : g2 < _ := HLU.out; have q3 := H.out.1.size; have q4 := HEg2.out.size; have q5 := HEg3.out.size; have q6 := HX0.out.size; omega) _ _ rfl (HO).out (HFL.out.2) ((by have := HFL.out.1; omega)) ?_; clear H; intro vb wb HO2 HGwb H; simp only [Act.put, sbA, szA, ssA])
  go_ret
  rw [← HS1.out] at HO2
  exact ⟨_, rfl, owns_weak HO2.out (by have q1 : g3 < _ := HLT.out; have q2 : g2 < _ := HLU.out; have q3 := H.out.1.size; have q4 := HEg2.out.size; have q5 := HEg3.out.size; have q6 := HX0.out.size; omega), H.out.1⟩
 ·rename (kind == 1) = false => hk1
  have HSK := kp (HSN.out (by simpa using hk1))
  clear hk1
  subst h4
  have HX0 := HXC
  go_wp2_with (first | ((with_reducible refine isLd 25 ?_); (refine L_fv H rfl 25 _ rfl 0 rfl _ rfl _ rfl rfl Try.underlying25 rfl (by kernel_rfl) ?_); simp only [Act.put, sbA, szA, ssA]) | (go_at_call 66; refine (HM.out _ _ (SlB.of_owns HO.out)).mono ?_; rintro e wm ⟨rfl, hx⟩; have HOM := kp (owns_ext HO.out hx); have H2 := kp (H.out.ext hx); have HXC := kp hx; clear H hx; have H := H2; clear H2) | (((with_reducible show wpList _ _ _ (Oper.mk (some 6) (Op.alloc 115) _ _ _ _ :: _) _ _); (refine L_alloc H rfl 115 rfl (cat ([Lf.v (zv 16)])) (fun _ _ => by kernel_rfl) ?_); clear H; intro g6 w6 HGg6 HEg6 H; simp only [Act.put, sbA, szA, ssA]); have HL6 := kp (show Lc w6 g6 115 _ from H.out.at 0 rfl)) | ((with_reducible refine isSt 115 ?_); (refine L_sv H rfl rfl 115 _ _ rfl 0 rfl _ rfl _ rfl (Lf.v ⟨_, HML.out⟩) rfl rfl rfl (by kernel_rfl) (_) rfl ?_; clear H; intro w7 HWw7 H; simp only [szA] at H)) | (at_builtin; (have HSX := kp (SlB_part H.out 0 rfl 0 0 rfl rfl 16); have HOX2 := kp (owns_wroteT (owns_ext HOM.out HEg6.out) HWw7.out HL6.out (show 5 ≠ 115 from by decide)); have H2 := kp H.out.tl; clear H; have H := H2; clear H2; refine L_appB H rfl _ _ rfl (w3.heap.size) (by have q1 : g3 < _ := HLT.out; have q2 : g2 < _ := HLU.out; have q3 := H.out.1.size; have q4 := HEg2.out.size; have q5 := HEg3.out.size; have q6 := HX0.out.size; have q7 := HXC.out.size; have q8 := HEg6.out.size; have q9 := HWw7.out.size; omega) (by have q1 : g3 < _ := HLT.out; have q2 : g2 < _ := HLU.out; have q3 := H.out.1.size; have q4 := HEg2.out.size; have q5 := HEg3.out.size; have q6 := HX0.out.size; have q7 := HXC.out.size; have q8 := HEg6.out.size; have q9 := HWw7.out.size; omega) (by intro zz hz; simp at hz; have q1 : g3 < _ := HLT.out; have q2 : g2 < _ := HLU.out; have q3 := H.out.1.size; have q4 := HEg2.out.size; have q5 := HEg3.out.size; have q6 := HX0.out.size; have q7 := HXC.out.size; have q8 := HEg6.out.size; have q9 := HWw7.out.size; omega) _ _ rfl HOX2.out _ _ rfl HSX.out ((by rw [HML.out]; have := HFL.out.1; omega)) ?_; clear H HSX HOX2; intro vb wb HO2 HGwb H; simp only [Act.put, sbA, szA, ssA])))
  go_ret
  rw [← HSK.out] at HO2
  exact ⟨_, rfl, owns_weak HO2.out (by have q1 : g3 < _ := HLT.out; have q2 : g2 < _ := HLU.out; have q3 := H.out.1.size; have q4 := HEg2.out.size; have q5 := HEg3.out.size; have q6 := HX0.out.size; omega), H.out.1⟩
end Go.Proofs.Ytibncchobkaaiaa
