/- Texts of this proof, put together: Flc, PlF, EqF. -/
import Derived.Test.YtibncchobkaaiaaF10
import Derived.Test.YtibncchobkaaiaaF6
import Derived.Test.YtibncchobkaaiaaF8
import Derived.Test.YtibncchobkaaiaaF9
import Derived.Test.YtibncchobkaaiaaF3
import Derived.ChangeKeysEq
import Derived.Test.YtibncchobkaaiaaF1
namespace Go.Proofs.Ytibncchobkaaiaa
open Go.RowKit
def over {n : Nat} (m : By) (x : Vc n) : Vc n := ⟨(m ++ x.1.drop m.length).take n, by have := x.2; simp; omega⟩
theorem over_val {n : Nat} (m : By) (x : Vc n) : (over m x).1 = m.take (min m.length n) ++ x.1.drop (min m.length n) := by
 show (m ++ x.1.drop m.length).take n = _
 have hx := x.2
 rcases Nat.le_total m.length n with h | h
 ·rw [Nat.min_eq_left h, List.take_of_length_le (Nat.le_refl m.length), List.take_of_length_le (by simp; omega)]
 ·rw [Nat.min_eq_right h, List.take_append_of_le_length h, List.drop_of_length_le (by omega), List.append_nil]
theorem fat_v {ps : List Lf} {off i n : Nat} {x : Vc n} (hf : fat ps off = some i) (hp : nth ps i = some (Lf.v x)) : (cat ps).drop off = x.1.map V8 ++ cat (ps.drop (i + 1)) := by
 obtain ⟨h1, h2, h3⟩ := fat_spec hf
 rw [h2, nth_get hp, cat_cons]
theorem SlB_part {w0 w : World} {bs : List Bk} (H : Loc w0 w bs) (k : Nat) {g T : Nat} {ps : List Lf} (hi : bs[k]? = some (g, T, cat ps)) (off i : Nat) (hf : fat ps off = some i) {n : Nat} {x : Vc n} (hp : nth ps i = some (Lf.v x)) (c : Nat) : SlB w (.slice (some ⟨g, off, none⟩) n c) x.1 := by
 have hx := x.2
 refine .inr ⟨g, off, c, by rw [hx], H.lt k hi, fun j y hj => (H.at k hi).cell ?_⟩
 rw [← List.getElem?_drop, fat_v hf hp, List.getElem?_append_left (by have := (List.getElem?_eq_some_iff.1 hj).1; simpa using this), List.getElem?_map, hj]
 rfl
theorem SlB.ne {w : World} {ad : Option Addr} {n c : Nat} {l : By} (h : SlB w (.slice ad n c) l) (h0 : l ≠ []) : ∃ b off, ad = some ⟨b, off, none⟩ := by
 cases l with
 | nil => exact absurd rfl h0
 | cons x l => obtain ⟨b, off, h1, _⟩ := h.at 0 x rfl; exact ⟨b, off, h1⟩
theorem SlB.len {w : World} {ad : Option Addr} {n c : Nat} {l : By} (h : SlB w (.slice ad n c) l) : n = l.length := by
 obtain ⟨a, c', e⟩ := h.form
 cases e; rfl
theorem SlB.from {w : World} {b off n c : Nat} {l : By} (h : SlB w (.slice (some ⟨b, off, none⟩) n c) l) (k m c' : Nat) (hm : m = l.length - k) (h0 : 0 < m) : SlB w (.slice (some ⟨b, off + k, none⟩) m c') (l.drop k) := by
 have hn := h.len
 refine .inr ⟨b, off + k, c', by rw [List.length_drop, hm], h.blk (by omega), fun j x hj => ?_⟩
 rw [List.getElem?_drop] at hj
 obtain ⟨b2, o2, h1, h2, h3⟩ := h.at (k + j) x hj
 cases h1
 rw [show off + k + j = off + (k + j) by omega]; exact h3
theorem owns_wroteT {w w' : World} {base E T sz n g : Nat} {v : Value} {xs cs : List Value} (h : w.ownsRow base E sz v n xs) (hw : Wrote w w' g) (hg : Lc w g T cs) (hne : E ≠ T) : w'.ownsRow base E sz v n xs := by
 obtain ⟨ds, rfl⟩ := hw
 obtain ⟨h1, h2 | ⟨b, cap, cur, h3, hb, hh, h4⟩⟩ := h
 ·exact ⟨h1, .inl h2⟩
 ·refine ⟨h1, .inr ⟨b, cap, cur, h3, hb, (setRow_other w g b ds ?_).trans hh, h4⟩⟩
  intro e
  subst e
  have h5 : w.heap[b]? = some (.cells cs.toArray T (0, 0)) := hg
  rw [h5] at hh
  cases hh
  exact hne rfl
theorem Wrote.size {w w' : World} {g : Nat} (h : Wrote w w' g) : w'.heap.size = w.heap.size := by obtain ⟨ds, rfl⟩ := h; exact setRow_size _ _ _
theorem out_ext {w w' : World} (h : Out [] w w') : Ext w w' := h.ext (Ext.refl w) fun g hg => by cases hg
theorem mono_SlBO (l : By) : MonoO [] (fun v w => SlB w v l) := fun _ _ _ h ho => h.ext (out_ext ho)
def NewS (T : Nat) (n : Nat) (cs : List Value) (v : Value) (w : World) : Prop := ∃ g, v = .slice (some ⟨g, 0, none⟩) n n ∧ Lc w g T cs
theorem mono_NewS (T n : Nat) (cs : List Value) : MonoO [] (NewS T n cs) := fun _ _ _ ⟨g, h1, h2⟩ ho => ⟨g, h1, h2.ext (out_ext ho)⟩
section
variable {P : Program} {ops : Array Oper} {rest : List Oper} {o : Oper} {a : Act} {w0 w : World} {Q : Exit → Act → World → Prop} {bs : List Bk}
theorem L_cpV (H : Kp (Loc w0 w bs)) (hgd : o.guard = none) (d s : Operand) (dT sT : TypeId) (ho : o.op = .call { callee := .builtin .copy, args := #[d, s], argTypes := #[dT, sT] }) (elem : TypeId) (hu : P.underlying dT = some (.slice elem)) (hsz : (P.info? elem).map (·.size) = some 1)
  (k : Nat) {g T : Nat} {ps : List Lf} (hi : bs[k]? = some (g, T, cat ps)) (off n c : Nat) (hd : a.eval d = .slice (some ⟨g, off, none⟩) n c) (i : Nat) (hf : fat ps off = some i) (x : Vc n) (hp : nth ps i = some (Lf.v x)) (y : Value) (hs : a.eval s = y) (m : By) (hy : SlB w y m) (new : List Lf) (hnew : pput ps i 1 [Lf.v (over m x)] = new)
  (h : ∀ w', Kp (Wrote w w' g) → Kp (Loc w0 w' (bs.set k (g, T, cat new))) → wpList P ops Q rest (a.put o.dst (goInt ((min m.length n : Nat) : Int))) w') : wpList P ops Q (o :: rest) a w := by
 have hx := x.2
 have hdr := fat_v hf hp
 refine wpList_cpS hgd d s dT sT ho elem hu hsz g off n c hd y hs m hy (cat ps) T (H.out.at k hi) (min m.length n) rfl ?_ (cat new) ?_ rfl (h _ (kp ⟨_, rfl⟩) (kp (H.out.set k hi (cat new))))
 ·have h1 : ((cat ps).drop off).length = (x.1.map V8 ++ cat (ps.drop (i + 1))).length := by rw [hdr]
  rw [List.length_drop, List.length_append, List.length_map, hx] at h1
  have h2 := put_fits 1 hf
  have h4 : (ps.drop i).take 1 = [Lf.v x] := by rw [nth_get hp]; rfl
  have h3 : lsum ((ps.drop i).take 1) = n := by rw [h4]; simp [lsum]
  rw [h3] at h2
  omega
 ·have h2 := cat_put (qs := [Lf.v (over m x)]) 1 hf (by
   have h4 : (ps.drop i).take 1 = [Lf.v x] := by rw [nth_get hp]; rfl
   rw [h4]; simp [lsum])
  rw [hnew] at h2
  rw [← h2, List.append_assoc, cat1]
  congr 1
  show _ = (over m x).1.map V8 ++ _
  have hl : ((over m x).1.map V8).length = n := by rw [List.length_map, (over m x).2]
  rw [hl, ← List.drop_drop, ← List.drop_drop, hdr, over_val, List.map_append, List.append_assoc, List.map_take]
  congr 1
  rw [List.drop_append_of_le_length (by rw [List.length_map, hx]; exact Nat.min_le_right _ _), List.drop_append, List.drop_of_length_le (i := n) (by rw [List.length_map, hx]; exact Nat.le_refl _), List.map_drop, List.length_map, hx, Nat.sub_self, List.nil_append, List.drop_zero]
theorem L_sn (H : Kp (Loc w0 w bs)) (hgd : o.guard = none) (hdst : o.dst = none) (ty : TypeId) (x y : Operand) (ho : o.op = .store ty x y) (k : Nat) {g T : Nat} {ps : List Lf} (hi : bs[k]? = some (g, T, cat ps))
  (hx : a.eval x = .pointer (some ⟨g, 0, none⟩)) {cs : List Value} (hy : a.eval y = .agg cs.toArray) (hc : cs = cat ps) (hz : (P.info? ty).map (·.size) = some (lsum ps))
  (h : wpList P ops Q rest a w) : wpList P ops Q (o :: rest) a w := by
 subst hc
 have hL := H.out.at k hi
 refine wpList_st_row hgd hdst ty x y ho g (cat ps).toArray hx hy T (cat ps).toArray hL (by rw [hz, List.size_toArray, cat_len]) rfl (by have := cat_one ps; simpa using this) rfl ?_
 rw [setRow_same hL]; exact h
theorem ret_f1 {fn : Func} {R : Ending → World → Prop} {p : Tmp} {ty : TypeId} (H : Kp (Loc w0 w bs)) (h : fn.results = #[.cell p ty]) (k : Nat) {g T : Nat} {ps : List Lf} (hi : bs[k]? = some (g, T, cat ps)) (hp : a.tmps.getD p undef = .pointer (some ⟨g, 0, none⟩))
  {d : TypeDesc} (hu : P.underlying ty = some d) (hd : (match d with | .struct _ | .array _ _ => true | _ => false) = true) (hz : (P.info? ty).map (·.size) = some (lsum ps)) (hdf : a.defers = []) (hR : R (.returned (.agg (cat ps).toArray)) w) : bodyPost P fn R .ret a w :=
 ret_row h g T (cat ps).toArray (0, 0) d hp (H.out.at k hi) hu hd (by rw [hz, List.size_toArray, cat_len]) hdf hR
theorem ret_f2 {fn : Func} {R : Ending → World → Prop} {p q : Tmp} {ty : TypeId} (H : Kp (Loc w0 w bs)) (h : fn.results = #[.cell p ty, .tmp q]) (k : Nat) {g T : Nat} {ps : List Lf} (hi : bs[k]? = some (g, T, cat ps)) (hp : a.tmps.getD p undef = .pointer (some ⟨g, 0, none⟩)) (v : Value) (hv : a.tmps.getD q undef = v)
  {d : TypeDesc} (hu : P.underlying ty = some d) (hd : (match d with | .struct _ | .array _ _ => true | _ => false) = true) (hz : (P.info? ty).map (·.size) = some (lsum ps)) (hdf : a.defers = []) (hR : R (.returned (.tuple #[.agg (cat ps).toArray, v])) w) : bodyPost P fn R .ret a w :=
 ret_row2 h g T (cat ps).toArray (0, 0) d hp v hv (H.out.at k hi) hu hd (by rw [hz, List.size_toArray, cat_len]) hdf hR
theorem results_ctt (fn : Func) {p q r : Tmp} {ty : TypeId} (h : fn.results = #[.cell p ty, .tmp q, .tmp r]) (tmps : Array Value) (w : World) (g : Nat) (t : TypeId) (cs : Array Value) (fr : Nat × Nat) (d : TypeDesc)
  (hp : tmps.getD p undef = .pointer (some ⟨g, 0, none⟩)) (v u : Value) (hv : tmps.getD q undef = v) (hr : tmps.getD r undef = u) (hg : w.heap[g]? = some (.cells cs t fr))
  (hu : P.underlying ty = some d) (hd : (match d with | .struct _ | .array _ _ => true | _ => false) = true) (hi : (P.info? ty).map (·.size) = some cs.size) : (results fn tmps).run P w = .ok (.tuple #[.agg cs, v, u]) w := by
 have hp' : tmps[p]?.getD undef = .pointer (some ⟨g, 0, none⟩) := by simpa using hp
 have hv' : tmps[q]?.getD undef = v := by simpa using hv
 have hr' : tmps[r]?.getD undef = u := by simpa using hr
 simp [results, h, hp', hv', hr', asAddr, run_loadVar_row w g t ty cs fr d hg hu hd hi]
theorem ret_f3 {fn : Func} {R : Ending → World → Prop} {p q r : Tmp} {ty : TypeId} (H : Kp (Loc w0 w bs)) (h : fn.results = #[.cell p ty, .tmp q, .tmp r]) (k : Nat) {g T : Nat} {ps : List Lf} (hi : bs[k]? = some (g, T, cat ps)) (hp : a.tmps.getD p undef = .pointer (some ⟨g, 0, none⟩)) (v u : Value) (hv : a.tmps.getD q undef = v) (hr : a.tmps.getD r undef = u)
  {d : TypeDesc} (hu : P.underlying ty = some d) (hd : (match d with | .struct _ | .array _ _ => true | _ => false) = true) (hz : (P.info? ty).map (·.size) = some (lsum ps)) (hdf : a.defers = []) (hR : R (.returned (.tuple #[.agg (cat ps).toArray, v, u])) w) : bodyPost P fn R .ret a w :=
 bodyPost_ret (results_ctt fn h a.tmps w g T (cat ps).toArray (0, 0) d hp v u hv hr (H.out.at k hi) hu hd (by rw [hz, List.size_toArray, cat_len])) hdf hR
end
def zv (n : Nat) : Vc n := ⟨List.replicate n 0#8, by simp⟩
def fit (n : Nat) (l : By) : Vc n := over l (zv n)
theorem fit_val {n : Nat} {l : By} (h : n ≤ l.length) : (fit n l).1 = l.take n := by
 show (over l (zv n)).1 = _
 rw [over_val, Nat.min_eq_right h, List.drop_of_length_le (by rw [(zv n).2]; exact Nat.le_refl _), List.append_nil]
structure Ks where
 c : Vc 16
 w : Vc 16
 d : Vc 16
deriving DecidableEq
def ks0 : Ks := ⟨zv 16, zv 16, zv 16⟩
structure Fw where
 role : Int
 stage : Int
 own : Vc 6
 peer : Vc 6
 master : Vc 16
 mine : Vc 16
 other : Vc 16
 replay : Int
 tries : Int
 due : Int
 pair : Ks
 gid : Int
 gkey : Vc 16
 inst : Int
deriving DecidableEq
def fw0 : Fw := ⟨0, 0, zv 6, zv 6, zv 16, zv 16, zv 16, 0, 0, 0, ks0, 0, zv 16, 0⟩
def partsK (k : Ks) : List Lf := [Lf.v k.c, Lf.v k.w, Lf.v k.d]
def partsG (i : Int) (k : Vc 16) : List Lf := [Lf.i .i64 i, Lf.v k]
def partsF (s : Fw) : List Lf := [Lf.i .u8 s.role, Lf.i .u8 s.stage, Lf.v s.own, Lf.v s.peer, Lf.v s.master, Lf.v s.mine, Lf.v s.other, Lf.i .i64 s.replay, Lf.i .i64 s.tries, Lf.i .i64 s.due, Lf.v s.pair.c, Lf.v s.pair.w, Lf.v s.pair.d, Lf.i .i64 s.gid, Lf.v s.gkey, Lf.i .i64 s.inst]
def partsM (kind count : Int) (nonce : Vc 16) (ad : Option Addr) (n c : Nat) : List Lf := [Lf.i .u8 kind, Lf.i .i64 count, Lf.v nonce, Lf.s ad n c]
def le8 (n : Int) : By := (List.range 8).map fun i => BitVec.ofInt 8 (n / 2 ^ (8 * i))
def frontF (kind count : Int) (nonce data : By) : By := BitVec.ofInt 8 kind :: (le8 count ++ (nonce ++ ([BitVec.ofInt 8 data.length, BitVec.ofInt 8 ((data.length : Int) / 256)] ++ data)))
def signedF (k : By) (kind count : Int) (nonce data : By) : By := frontF kind count nonce data ++ (if kind = 1 then (zv 16).1 else macF k (frontF kind count nonce data))
theorem le8_len (n : Int) : (le8 n).length = 8 := by simp [le8]
theorem frontF_len (kind count : Int) (nonce data : By) (hn : nonce.length = 16) : (frontF kind count nonce data).length = 27 + data.length := by
 simp [frontF, le8_len, hn]; omega
theorem signedF_len (k : By) (kind count : Int) (nonce data : By) (hn : nonce.length = 16) : (signedF k kind count nonce data).length = 43 + data.length := by
 unfold signedF
 rw [List.length_append, frontF_len kind count nonce data hn]
 split
 ·simp [zv]; omega
 ·rw [macF_len]; omega
def ordF (a b m n : By) : By := if 0 < cmpF a b then b ++ (a ++ (n ++ m)) else a ++ (b ++ (m ++ n))
def pwS : ByteArray := ⟨#[112, 97, 105, 114, 119, 105, 115, 101]⟩
def threeF (e : By) : Ks := ⟨fit 16 e, fit 16 (e.drop 16), fit 16 (e.drop 32)⟩
def pairF (master : Vc 16) (a1 a2 : Vc 6) (n1 n2 : Vc 16) : Ks := if a1 = a2 then ks0 else threeF (expandF master.1 pwS (ordF a1.1 a2.1 n1.1 n2.1) 48)
def pairE (a1 a2 : Vc 6) : Int := if a1 = a2 then 2 else 0
def keysF (s : Fw) (other : Vc 16) : Ks := pairF s.master s.own s.peer s.mine other
def oneI (b : Bool) : Int := if b then 1 else 0
def gidB (s : Fw) : Bool := s.gid == 2 || s.gid == 3
def freshS (s : Fw) : Bool := decide (s.other = zv 16) && decide (s.pair = ks0)
def waitsB (s : Fw) : Bool := s.stage == 1 || s.stage == 3
def keyedB (s : Fw) : Bool := s.stage == 3 || s.stage == 4
def idleB (s : Fw) : Bool := s.stage == 0
def badA1 (s : Fw) : Bool := decide (5 < s.stage) || s.stage == 2 || !gidB s || decide (s.replay < oneI (!idleB s)) || decide (8 * oneI (!idleB s) < s.replay)
def badA2 (s : Fw) : Bool := (waitsB s && (decide (s.tries < 1) || decide (4 < s.tries) || decide (s.due < 1) || decide (1099511727776 < s.due))) || (!waitsB s && (s.tries != 0 || s.due != 0))
def validAuthF (s : Fw) : Bool := if badA1 s then false else if badA2 s then false else (keyedB s || freshS s)
def doneB (s : Fw) : Bool := s.stage == 4
def badS1 (s : Fw) : Bool := (!doneB s && !idleB s && s.stage != 2) || decide (s.replay < 0) || decide (4611686018427387904 ≤ s.replay) || (!doneB s && s.replay != 0) || s.tries != 0 || s.due != 0
def badS2 (s : Fw) : Bool := (doneB s && !gidB s) || (!doneB s && !(s.gid == 0 && decide (s.gkey = zv 16)))
def validSupF (s : Fw) : Bool := if badS1 s then false else if badS2 s then false else (!idleB s || freshS s)
def validF (s : Fw) : Bool := if s.role = 1 then validAuthF s else if s.role = 2 then validSupF s else false
def needsB (s : Fw) : Bool := !decide (s.pair = ks0) || s.stage == 2 || s.stage == 3 || s.stage == 4
def checkB (s : Fw) : Bool := !decide (s.own = s.peer) && s.inst == oneI (s.stage == 4) && validF s && (!needsB s || decide (s.pair = keysF s s.other))
def checkE (s : Fw) : Int := if checkB s then 0 else 8
def timeB (now : Int) : Bool := decide (0 ≤ now) && decide (now ≤ 1099511627776)
def checkedF (s : Fw) (now : Int) : Int := if checkB s then (if timeB now then 0 else 2) else 8
def coverN (kind count : Int) (nonce : By) : Vc 13 := fit 13 ((frontF kind count nonce []).take 9)
def coverA (kind count : Int) (nonce : By) : By := (frontF kind count nonce []).take 25
def groupB (gid : Int) (gkey : By) : By := BitVec.ofInt 8 gid :: gkey
def wrapF (k : By) (kind count : Int) (nonce : By) (gid : Int) (gkey : By) : By := sealF k (coverN kind count nonce).1 (coverA kind count nonce) (groupB gid gkey)
def sendF (s : Fw) : By := if s.stage = 3 then signedF s.pair.c.1 3 s.replay s.mine.1 (wrapF s.pair.w.1 3 s.replay s.mine.1 s.gid s.gkey.1) else signedF s.pair.c.1 1 s.replay s.mine.1 []
abbrev Res := Fw × List By × Int
def errR (e : Int) : Res := (fw0, [], e)
def startF (s : Fw) (now : Int) : Res :=
 if checkedF s now ≠ 0 then errR (checkedF s now) else if s.role ≠ 1 ∨ s.stage ≠ 0 then errR 20
 else ({ s with stage := 1, replay := 1, tries := 1, due := now + 100000 }, [sendF { s with stage := 1, replay := 1, tries := 1, due := now + 100000 }], 0)
def tickF (s : Fw) (now : Int) : Res :=
 if checkedF s now ≠ 0 then errR (checkedF s now) else if s.due = 0 ∨ now < s.due then (s, [], 0)
 else if s.tries = 4 then ({ s with stage := 5, other := zv 16, pair := ks0, tries := 0, due := 0 }, [], 0)
 else ({ s with tries := s.tries + 1, replay := s.replay + 1, due := now + 100000 }, [sendF { s with tries := s.tries + 1, replay := s.replay + 1, due := now + 100000 }], 0)
def numLE : By → Int
 | [] => 0
 | x :: l => wI x + 256 * numLE l
def kindP (b : By) : Int := wI (b.getD 0 0)
def countP (b : By) : Int := numLE ((b.drop 1).take 8)
def nonceP (b : By) : Vc 16 := fit 16 (b.drop 9)
def dataP (b : By) : By := (b.drop 27).take (b.length - 43)
def saidP (b : By) : Int := wI (b.getD 25 0) + 256 * wI (b.getD 26 0)
def wantP (b : By) : Int := if kindP b = 3 then 25 else 0
def oddP (b : By) : Bool :=
 decide (kindP b < 1) || decide (4 < kindP b) || decide (4611686018427387904 ≤ countP b) || decide (saidP b ≠ wantP b) || decide (((dataP b).length : Int) ≠ wantP b) ||
 (kindP b == 4 && decide (nonceP b ≠ zv 16)) || (kindP b == 1 && decide (b.drop (b.length - 16) ≠ (zv 16).1))
def parseE (b : By) : Int := if b.length < 43 then 10 else if oddP b then 12 else 0
def rightF (b : By) (k : By) : Bool := signedF k (kindP b) (countP b) (nonceP b).1 (dataP b) == b
def openM (k : By) (kind count : Int) (nonce data : By) : Option (Int × Vc 16) :=
 if openOk k (coverN kind count nonce).1 (coverA kind count nonce) data = true ∧ (openB k (coverN kind count nonce).1 data).length = 17 ∧ (wI ((openB k (coverN kind count nonce).1 data).getD 0 0) = 2 ∨ wI ((openB k (coverN kind count nonce).1 data).getD 0 0) = 3)
 then some (wI ((openB k (coverN kind count nonce).1 data).getD 0 0), fit 16 ((openB k (coverN kind count nonce).1 data).drop 1)) else none
def openG (b : By) (k : By) : Option (Int × Vc 16) := openM k (kindP b) (countP b) (nonceP b).1 (dataP b)
def Fw.first (s : Fw) (b : By) : Fw := { s with stage := 2, other := nonceP b, pair := keysF s (nonceP b) }
def firstF (s : Fw) (b : By) : Res := (s.first b, [signedF (keysF s (nonceP b)).c.1 2 (countP b) s.mine.1 []], 0)
def Fw.second (s : Fw) (b : By) (now : Int) : Fw := { s with stage := 3, other := nonceP b, pair := keysF s (nonceP b), replay := s.replay + 1, tries := 1, due := now + 100000 }
def secondE (s : Fw) (b : By) : Int := if countP b ≠ s.replay then 21 else if rightF b (keysF s (nonceP b)).c.1 = false then 33 else 0
def secondF (s : Fw) (b : By) (now : Int) : Res := if secondE s b ≠ 0 then errR (secondE s b) else (s.second b now, [sendF (s.second b now)], 0)
def thirdE (s : Fw) (b : By) : Int :=
 if countP b ≤ s.replay then 21
 else if (s.stage = 4 ∧ nonceP b ≠ s.other) ∨ rightF b (keysF s (nonceP b)).c.1 = false then 33
 else if openG b (keysF s (nonceP b)).w.1 = none then 31 else 0
def Fw.third (s : Fw) (b : By) (g : Int × Vc 16) : Fw :=
 if s.stage = 4 then { s with replay := countP b } else { s with stage := 4, other := nonceP b, pair := keysF s (nonceP b), gid := g.1, gkey := g.2, inst := 1, replay := countP b }
def thirdF (s : Fw) (b : By) : Res := if thirdE s b ≠ 0 then errR (thirdE s b) else
 (s.third b ((openG b (keysF s (nonceP b)).w.1).getD (0, zv 16)), [signedF (keysF s (nonceP b)).c.1 4 (countP b) (zv 16).1 []], 0)
def fourthE (s : Fw) (b : By) : Int := if countP b ≠ s.replay then 21 else if rightF b s.pair.c.1 = false then 33 else 0
def fourthF (s : Fw) (b : By) : Res := if fourthE s b ≠ 0 then errR (fourthE s b) else ({ s with stage := 4, inst := 1, tries := 0, due := 0 }, [], 0)
def handleF (s : Fw) (b : By) (now : Int) : Res :=
 if checkedF s now ≠ 0 then errR (checkedF s now) else if parseE b ≠ 0 then errR (parseE b)
 else if s.role = 1 ∧ s.stage = 1 ∧ kindP b = 2 then secondF s b now
 else if s.role = 1 ∧ s.stage = 3 ∧ kindP b = 4 then fourthF s b
 else if s.role = 2 ∧ (s.stage = 0 ∨ s.stage = 2) ∧ kindP b = 1 then firstF s b
 else if s.role = 2 ∧ (s.stage = 2 ∨ s.stage = 4) ∧ kindP b = 3 then thirdF s b
 else errR 20
def newB (role : Int) (own peer : Vc 6) (gid : Int) : Bool := (role != 1 && role != 2) || decide (own = peer) || (role == 1 && gid != 2 && gid != 3)
def newF (role : Int) (own peer : Vc 6) (master nonce : Vc 16) (gid : Int) (gkey : Vc 16) : Fw × Int :=
 if newB role own peer gid then (fw0, 2)
 else ({ fw0 with role := role, own := own, peer := peer, master := master, mine := nonce, gid := if role = 2 then 0 else gid, gkey := if role = 2 then zv 16 else gkey }, 0)
section
variable {P : Program}
theorem isAgg_f (w : World) {E : TypeId} {d : TypeDesc} (hE : P.underlying E = some d) (hd : d.isRow = false) : (isAgg E).run P w = .ok false w := by
 unfold isAgg; rw [Sem.run_bind, run_underlying hE w]; cases d <;> simp_all
theorem isAgg_t (w : World) {E : TypeId} {d : TypeDesc} (hE : P.underlying E = some d) (hd : d.isRow = true) : (isAgg E).run P w = .ok true w := by
 unfold isAgg; rw [Sem.run_bind, run_underlying hE w]; cases d <;> simp_all
theorem part_f1 (w : World) {E : TypeId} {d : TypeDesc} (hE : P.underlying E = some d) (hd : d.isRow = false) {ps : List Lf} {off i : Nat} {v : Value} {h o} (hf : fat ps off = some i) (hp : nth ps i = some ⟨1, [v], h, o⟩) : (part E (cat ps).toArray off).run P w = .ok v w := by
 have := cat_cell hf hp
 simp [part, isAgg_f w hE hd, this]
theorem extract_list (l : List Value) (a b : Nat) : l.toArray.extract a (a + b) = ((l.drop a).take b).toArray := by
 rw [List.extract_toArray, List.extract_eq_take_drop, Nat.add_sub_cancel_left]
theorem part_cells (w : World) {E : TypeId} {d : TypeDesc} {s : Nat} (hE : P.underlying E = some d) (hd : d.isRow = true) (hz : (P.info? E).map (·.size) = some s) (l : List Value) (off : Nat) : (part E l.toArray off).run P w = .ok (.agg ((l.drop off).take s).toArray) w := by
 cases hi : P.info? E with
 | none => simp [hi] at hz
 | some j =>
  have hs : j.size = s := by simpa [hi] using hz
  simp only [part, isAgg_t w hE hd, run_sizeOf w hi, Sem.run_bind, Result.andThen_ok, if_true, Sem.run_pure]
  first
   | rw [extract_list]; simp [hs, Program.cellsOf, hi]
   | (simp [hs, Program.cellsOf, hi, extract_list])
theorem part_fv (w : World) {E : TypeId} {d : TypeDesc} (hE : P.underlying E = some d) (hd : d.isRow = true) {ps : List Lf} {off i n : Nat} {cs : List Value} {h o} (hz : (P.info? E).map (·.size) = some n) (hf : fat ps off = some i) (hp : nth ps i = some ⟨n, cs, h, o⟩) : (part E (cat ps).toArray off).run P w = .ok (.agg cs.toArray) w := by
 have hc := cat_part hf hp
 dsimp only at hc
 rw [part_cells w hE hd hz, ← h, hc]
theorem part_fg (w : World) {E : TypeId} {d : TypeDesc} (hE : P.underlying E = some d) (hd : d.isRow = true) {ps : List Lf} {off i : Nat} (qs : List Lf) (hz : (P.info? E).map (·.size) = some (lsum qs)) (hf : fat ps off = some i) (hp : (ps.drop i).take qs.length = qs) : (part E (cat ps).toArray off).run P w = .ok (.agg (cat qs).toArray) w := by
 have hc := cat_group hf hp
 rw [part_cells w hE hd hz, ← cat_len, hc]
theorem eqFields_q (w : World) (d : Nat) {xs ys : Array Value} (q : Field → Bool) : ∀ (fs : List Field), (∀ f ∈ fs, f.name ≠ "_") → (∀ f ∈ fs, ∃ v u, (part f.type xs f.offset).run P w = .ok v w ∧ (part f.type ys f.offset).run P w = .ok u w ∧ (Op.equalIn d f.type v u).run P w = .ok (q f) w) →
  (Op.eqFields d xs ys fs).run P w = .ok (fs.all q) w
 | [], _, _ => by simp [Op.eqFields]
 | f :: fs, hn, h => by
  obtain ⟨v, u, h1, h2, h3⟩ := h f (by simp)
  have h4 := eqFields_q w d q fs (fun g hg => hn g (by simp [hg])) fun g hg => h g (by simp [hg])
  have hf := hn f (by simp)
  simp only [Op.eqFields, hf, ne_eq, not_false_eq_true, if_true, Sem.run_bind, h1, h2, Result.andThen_ok, h3, List.all_cons]
  cases q f with
  | false => simp
  | true => simp [h4]
theorem wpList_bin {ops : Array Oper} {rest : List Oper} {o : Oper} {a : Act} {w : World} {Q : Exit → Act → World → Prop} (hgd : Region.wanted o (yielded ops a.tmps) = true) (b : BinOp) (t u : TypeId) (x y : Operand)
  (ho : o.op = .binOp b t x y u) (vx vy v : Value) (hx : a.eval x = vx) (hy : a.eval y = vy) (hgm : (eqGuard b t x y vx vy).run P w = .ok () w) (hrun : (binOp b t vx vy).run P w = .ok v w) (h : wpList P ops Q rest (a.put o.dst v) w) : wpList P ops Q (o :: rest) a w := by
 unfold wpList
 rw [if_pos hgd]
 refine .inl ?_
 unfold Oper.wp
 simp [execOp, ho, hx, hy, hgm, hrun, Result.andThen]
 exact h
theorem wpList_eq2 {ops : Array Oper} {rest : List Oper} {o : Oper} {a : Act} {w : World} {Q : Exit → Act → World → Prop} (hgd : Region.wanted o (yielded ops a.tmps) = true) (t u : TypeId) (x y : Operand)
  (ho : o.op = .binOp .eql t x y u) (cx cy : List Value) (b : Bool) (hx : a.eval x = .agg cx.toArray) (hy : a.eval y = .agg cy.toArray) (hg : P.eqGuardType P.depth t = false) (hq : (Op.equalIn 10000 t (.agg cx.toArray) (.agg cy.toArray)).run P w = .ok b w) (h : wpList P ops Q rest (a.put o.dst (.bool b)) w) : wpList P ops Q (o :: rest) a w :=
 wpList_bin hgd .eql t u x y ho _ _ _ hx hy (run_eqGuard_agg _ _ _ _ _ _ _ hg) (by rw [run_eql_struct, hq]; rfl) h
theorem wpList_ne2 {ops : Array Oper} {rest : List Oper} {o : Oper} {a : Act} {w : World} {Q : Exit → Act → World → Prop} (hgd : Region.wanted o (yielded ops a.tmps) = true) (t u : TypeId) (x y : Operand)
  (ho : o.op = .binOp .neq t x y u) (cx cy : List Value) (b : Bool) (hx : a.eval x = .agg cx.toArray) (hy : a.eval y = .agg cy.toArray) (hg : P.eqGuardType P.depth t = false) (hq : (Op.equalIn 10000 t (.agg cx.toArray) (.agg cy.toArray)).run P w = .ok b w) (h : wpList P ops Q rest (a.put o.dst (.bool (!b))) w) : wpList P ops Q (o :: rest) a w :=
 wpList_bin hgd .neq t u x y ho _ _ _ hx hy (run_eqGuard_agg _ _ _ _ _ _ _ hg) (by rw [run_neq_struct, hq]; rfl) h
end
theorem sizeU8e : (Try.prog.info? 5).map (·.size) = some 1 := by kernel_rfl
theorem eqV_in (w : World) {T n : Nat} (hT : Try.prog.underlying T = some (.array n 5)) (x y : Vc n) (d : Nat) : (Op.equalIn (d + 2) T (.agg (x.1.map V8).toArray) (.agg (y.1.map V8).toArray)).run Try.prog w = .ok (decide (x = y)) w := by
 rw [show decide (x = y) = (x.1 == y.1) by
  by_cases h : x = y
  ·subst h; simp
  ·have : x.1 ≠ y.1 := fun e => h (Subtype.ext e)
   simp [h, this]]
 exact run_eq_ints w hT Try.underlying5 sizeU8e x.1 y.1 x.2 y.2 d
theorem fields28 : (Try.prog.fieldsOf 28).toList.map (fun f => (f.type, f.offset)) = [(25, 0), (25, 16), (25, 32)] := by kernel_rfl
theorem eqFields_by {w : World} {d : Nat} {xs ys : Array Value} {fs : List Field} {l : List (Nat × Nat)} (q : Nat → Bool) (hl : fs.map (fun f => (f.type, f.offset)) = l) (hn : fs.all (fun f => f.name != "_") = true)
  (h : ∀ p ∈ l, ∃ v u, (part p.1 xs p.2).run Try.prog w = .ok v w ∧ (part p.1 ys p.2).run Try.prog w = .ok u w ∧ (Op.equalIn d p.1 v u).run Try.prog w = .ok (q p.2) w) : (Op.eqFields d xs ys fs).run Try.prog w = .ok (l.all fun p => q p.2) w := by
 have := eqFields_q (P := Try.prog) w d (fun f => q f.offset) (xs := xs) (ys := ys) fs (fun f hf => by
  have := List.all_eq_true.1 hn f hf
  simpa using this) (fun f hf => by
  have := h (f.type, f.offset) (by rw [← hl]; exact List.mem_map.2 ⟨f, hf, rfl⟩)
  exact this)
 rw [this, ← hl]
 simp [List.all_map, Function.comp_def]
theorem eqK_in (w : World) (x y : Ks) (d : Nat) : (Op.equalIn (d + 3) 28 (.agg (cat (partsK x)).toArray) (.agg (cat (partsK y)).toArray)).run Try.prog w = .ok (decide (x = y)) w := by
 rw [run_equalIn_struct w (d + 2) 28 _ _ (by kernel_rfl) (by kernel_rfl)]
 rw [eqFields_by (fun o => if o = 0 then decide (x.c = y.c) else if o = 16 then decide (x.w = y.w) else decide (x.d = y.d)) fields28 (by kernel_rfl) (fun p hp => ?_)]
 ·refine congrArg (fun z => Result.ok z w) (Bool.eq_iff_iff.2 ?_)
  obtain ⟨a, b, c⟩ := x
  obtain ⟨a', b', c'⟩ := y
  simp
 simp only [List.mem_cons, List.not_mem_nil, or_false] at hp
 rcases hp with rfl | rfl | rfl
 ·exact ⟨_, _, part_fv w Try.underlying25 rfl (by kernel_rfl) (i := 0) rfl rfl, part_fv w Try.underlying25 rfl (by kernel_rfl) (i := 0) rfl rfl, eqV_in w Try.underlying25 x.c y.c d⟩
 ·exact ⟨_, _, part_fv w Try.underlying25 rfl (by kernel_rfl) (i := 1) rfl rfl, part_fv w Try.underlying25 rfl (by kernel_rfl) (i := 1) rfl rfl, eqV_in w Try.underlying25 x.w y.w d⟩
 ·exact ⟨_, _, part_fv w Try.underlying25 rfl (by kernel_rfl) (i := 2) rfl rfl, part_fv w Try.underlying25 rfl (by kernel_rfl) (i := 2) rfl rfl, eqV_in w Try.underlying25 x.d y.d d⟩
theorem fields30 : (Try.prog.fieldsOf 30).toList.map (fun f => (f.type, f.offset)) = [(3, 0), (25, 1)] := by kernel_rfl
theorem eqG_in (w : World) (i j : Int) (x y : Vc 16) (d : Nat) : (Op.equalIn (d + 3) 30 (.agg (cat (partsG i x)).toArray) (.agg (cat (partsG j y)).toArray)).run Try.prog w = .ok (i == j && decide (x = y)) w := by
 rw [run_equalIn_struct w (d + 2) 30 _ _ (by kernel_rfl) (by kernel_rfl)]
 rw [eqFields_by (fun o => if o = 0 then i == j else decide (x = y)) fields30 (by kernel_rfl) (fun p hp => ?_)]
 ·refine congrArg (fun z => Result.ok z w) (Bool.eq_iff_iff.2 ?_)
  simp
 simp only [List.mem_cons, List.not_mem_nil, or_false] at hp
 rcases hp with rfl | rfl
 ·exact ⟨_, _, part_f1 w Try.underlying3 rfl (i := 0) rfl rfl, part_f1 w Try.underlying3 rfl (i := 0) rfl rfl, run_equalIn_int w (d + 1) 3 _ _ _ _ Try.underlying3⟩
 ·exact ⟨_, _, part_fv w Try.underlying25 rfl (by kernel_rfl) (i := 1) rfl rfl, part_fv w Try.underlying25 rfl (by kernel_rfl) (i := 1) rfl rfl, eqV_in w Try.underlying25 x y d⟩
theorem fields32 : (Try.prog.fieldsOf 32).toList.map (fun f => (f.type, f.offset)) = [(5, 0), (5, 1), (23, 2), (23, 8), (25, 14), (26, 30), (26, 46), (3, 62), (3, 63), (3, 64), (28, 65), (30, 113), (3, 130)] := by kernel_rfl
theorem eqF_in (w : World) (x y : Fw) : (Op.equalIn 10000 32 (.agg (cat (partsF x)).toArray) (.agg (cat (partsF y)).toArray)).run Try.prog w = .ok (decide (x = y)) w := by
 rw [run_equalIn_struct w 9999 32 _ _ (by kernel_rfl) (by kernel_rfl)]
 rw [eqFields_by (fun o => if o = 0 then x.role == y.role else if o = 1 then x.stage == y.stage else if o = 2 then decide (x.own = y.own) else if o = 8 then decide (x.peer = y.peer) else if o = 14 then decide (x.master = y.master) else if o = 30 then decide (x.mine = y.mine) else if o = 46 then decide (x.other = y.other) else if o = 62 then x.replay == y.replay else if o = 63 then x.tries == y.tries else if o = 64 then x.due == y.due else if o = 65 then decide (x.pair = y.pair) else if o = 113 then (x.gid == y.gid && decide (x.gkey = y.gkey)) else x.inst == y.inst) fields32 (by kernel_rfl) (fun p hp => ?_)]
 ·refine congrArg (fun z => Result.ok z w) (Bool.eq_iff_iff.2 ?_)
  obtain ⟨a0, a1, a2, a3, a4, a5, a6, a7, a8, a9, a10, a11, a12, a13⟩ := x
  obtain ⟨b0, b1, b2, b3, b4, b5, b6, b7, b8, b9, b10, b11, b12, b13⟩ := y
  simp [and_assoc]
 simp only [List.mem_cons, List.not_mem_nil, or_false] at hp
 rcases hp with rfl | rfl | rfl | rfl | rfl | rfl | rfl | rfl | rfl | rfl | rfl | rfl | rfl
 ·exact ⟨_, _, part_f1 w Try.underlying5 rfl (i := 0) rfl rfl, part_f1 w Try.underlying5 rfl (i := 0) rfl rfl, run_equalIn_int w 9998 5 _ _ _ _ Try.underlying5⟩
 ·exact ⟨_, _, part_f1 w Try.underlying5 rfl (i := 1) rfl rfl, part_f1 w Try.underlying5 rfl (i := 1) rfl rfl, run_equalIn_int w 9998 5 _ _ _ _ Try.underlying5⟩
 ·exact ⟨_, _, part_fv w Try.underlying23 rfl (by kernel_rfl) (i := 2) rfl rfl, part_fv w Try.underlying23 rfl (by kernel_rfl) (i := 2) rfl rfl, eqV_in w Try.underlying23 x.own y.own 9997⟩
 ·exact ⟨_, _, part_fv w Try.underlying23 rfl (by kernel_rfl) (i := 3) rfl rfl, part_fv w Try.underlying23 rfl (by kernel_rfl) (i := 3) rfl rfl, eqV_in w Try.underlying23 x.peer y.peer 9997⟩
 ·exact ⟨_, _, part_fv w Try.underlying25 rfl (by kernel_rfl) (i := 4) rfl rfl, part_fv w Try.underlying25 rfl (by kernel_rfl) (i := 4) rfl rfl, eqV_in w Try.underlying25 x.master y.master 9997⟩
 ·exact ⟨_, _, part_fv w Try.underlying26 rfl (by kernel_rfl) (i := 5) rfl rfl, part_fv w Try.underlying26 rfl (by kernel_rfl) (i := 5) rfl rfl, eqV_in w Try.underlying26 x.mine y.mine 9997⟩
 ·exact ⟨_, _, part_fv w Try.underlying26 rfl (by kernel_rfl) (i := 6) rfl rfl, part_fv w Try.underlying26 rfl (by kernel_rfl) (i := 6) rfl rfl, eqV_in w Try.underlying26 x.other y.other 9997⟩
 ·exact ⟨_, _, part_f1 w Try.underlying3 rfl (i := 7) rfl rfl, part_f1 w Try.underlying3 rfl (i := 7) rfl rfl, run_equalIn_int w 9998 3 _ _ _ _ Try.underlying3⟩
 ·exact ⟨_, _, part_f1 w Try.underlying3 rfl (i := 8) rfl rfl, part_f1 w Try.underlying3 rfl (i := 8) rfl rfl, run_equalIn_int w 9998 3 _ _ _ _ Try.underlying3⟩
 ·exact ⟨_, _, part_f1 w Try.underlying3 rfl (i := 9) rfl rfl, part_f1 w Try.underlying3 rfl (i := 9) rfl rfl, run_equalIn_int w 9998 3 _ _ _ _ Try.underlying3⟩
 ·exact ⟨_, _, part_fg w Try.underlying28 rfl (partsK x.pair) (by kernel_rfl) (i := 10) rfl rfl, part_fg w Try.underlying28 rfl (partsK y.pair) (by kernel_rfl) (i := 10) rfl rfl, eqK_in w x.pair y.pair 9996⟩
 ·exact ⟨_, _, part_fg w Try.underlying30 rfl (partsG x.gid x.gkey) (by kernel_rfl) (i := 13) rfl rfl, part_fg w Try.underlying30 rfl (partsG y.gid y.gkey) (by kernel_rfl) (i := 13) rfl rfl, eqG_in w x.gid y.gid x.gkey y.gkey 9996⟩
 ·exact ⟨_, _, part_f1 w Try.underlying3 rfl (i := 15) rfl rfl, part_f1 w Try.underlying3 rfl (i := 15) rfl rfl, run_equalIn_int w 9998 3 _ _ _ _ Try.underlying3⟩
end Go.Proofs.Ytibncchobkaaiaa
