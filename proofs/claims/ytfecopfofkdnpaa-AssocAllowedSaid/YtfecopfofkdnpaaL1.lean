/- Texts of this proof, put together: Qz, Pl30b, Pl30c, ElF, FreeC, Open, Same, Pl30d, Pl30e, Pl30f. -/
import Derived.ProofKit
import Derived.OpenShut
import Derived.Test.YtfecopfofkdnpaaS1
import Derived.Test.YtfecopfofkdnpaaS2
import Derived.Test.YtfecopfofkdnpaaS3
import Derived.Test.YtfecopfofkdnpaaS4
import Derived.Test.YtfecopfofkdnpaaS5
import Derived.Test.YtfecopfofkdnpaaS6
import Derived.Test.YtfecopfofkdnpaaS7
import Derived.Test.YtfecopfofkdnpaaS8
import Derived.Test.YtfecopfofkdnpaaS9
import Derived.Test.YtfecopfofkdnpaaS10
import Derived.Test.YtfecopfofkdnpaaS11
import Derived.Test.YtfecopfofkdnpaaS12
import Derived.Test.YtfecopfofkdnpaaS13
import Derived.Test.YtfecopfofkdnpaaS14
import Derived.Test.YtfecopfofkdnpaaS15
import Derived.Test.YtfecopfofkdnpaaS16
import Derived.Test.YtfecopfofkdnpaaS17
import Derived.Test.YtfecopfofkdnpaaS18
import Derived.Test.YtfecopfofkdnpaaS19
import Derived.Test.YtfecopfofkdnpaaS20
import Derived.Test.YtfecopfofkdnpaaS21
import Derived.Test.YtfecopfofkdnpaaS22
import Derived.Test.YtfecopfofkdnpaaS23
import Derived.Test.YtfecopfofkdnpaaS24
import Derived.Test.YtfecopfofkdnpaaS25
import Derived.Test.YtfecopfofkdnpaaS26
import Derived.Test.YtfecopfofkdnpaaS27
import Derived.Test.YtfecopfofkdnpaaS28
import Derived.Test.YtfecopfofkdnpaaS29
import Derived.Test.YtfecopfofkdnpaaS30
namespace Go.Proofs.Ytfecopfofkdnpaa
open Go.RowKit
section
variable {P : Program}
variable {o : Oper} {a : Act} {w0 w : World} {x0 : Xtra} {K : Act → Prop} {bs : List Bk}
theorem qz_eq (t u : TypeId) (x y : Operand) (ho : o.op = .binOp .eql t x y u) (cx cy : List Value) (b : Bool) (hx : a.eval x = .agg cx.toArray) (hy : a.eval y = .agg cy.toArray) (hg : P.eqGuardType P.depth t = false) (hq : ∀ w', (Op.equalIn 10000 t (.agg cx.toArray) (.agg cy.toArray)).run P w' = .ok b w')
  (h : K (a.put o.dst (.bool b))) : o.quiet P a (Cx w x0) K :=
 qz_b .eql t u x y ho _ _ _ hx hy (fun _ => run_eqGuard_agg _ _ _ _ _ _ _ hg) (fun w' => by rw [run_eql_struct, hq w']; rfl) h
end
theorem findI_cases (l : List En) (t : List (BitVec 8)) : findI l t = -1 ∨ ∃ i : Nat, i < l.length ∧ findI l t = i := by
 unfold findI
 cases h : l.findIdx? (hasAddr t) with
 | none => exact .inl rfl
 | some i =>
  rw [List.findIdx?_eq_some_iff_getElem] at h
  obtain ⟨hi, _⟩ := h
  exact .inr ⟨i, hi, rfl⟩
def subsB (s : Int) : Bool := s == 11 || s == 12 || s == 4 || s == 5 || s == 8
def allowF (a : As) (l : List En) (h : Hd) : Bool := validA a l && validH h && addrF a h && (if h.kind = 2 then (findE a l h.a2).1.state == 2 else if subsB h.sub then true else if h.sub = 13 then (findE a l h.a2).1.state == 2 else (findE a l h.a2).2)
section
variable (dA : List (BitVec 8) → Option (Int × Int)) (dJ : Bool → List (BitVec 8) → Option (Int × Int)) (dL : List (BitVec 8) → Bool)
end
def removeF (a : As) (l : List En) (t : List (BitVec 8)) : Rs :=
 if !validA a l then ([], [], 8) else if (lookF l t).isNone then ([], [], 6) else (delF l t, [byeF a t 12 8], 0)
def admitF (a : As) (l : List En) (t : List (BitVec 8)) (now : Int) : Rs :=
 if !validA a l then ([], [], 8) else if groupF t || t == a.own || !momentF now then ([], [], 2)
 else if (lookF l t).isNone && l.length == 64 then ([], [], 22) else (putF l (freshE t now), [], 0)
theorem dA_range {b : List (BitVec 8)} {al st : Int} (h : dA b = some (al, st)) : 0 ≤ al ∧ al ≤ 65535 ∧ 0 ≤ st ∧ st ≤ 65535 := by
 unfold dA at h
 split at h
 ·have h1 := rd_range b 0
  have h2 := rd_range b 2
  simp only [Option.some.injEq, Prod.mk.injEq] at h
  omega
 ·cases h
theorem two_rd {n : Int} (h0 : 0 ≤ n) (h1 : n ≤ 65535) (p q : List (BitVec 8)) : rdF (p ++ two16 n ++ q) p.length = n := by
 unfold rdF two16
 have e1 : (p ++ [BitVec.ofInt 8 n, BitVec.ofInt 8 (n / 256)] ++ q).getD p.length 0 = BitVec.ofInt 8 n := by simp [List.getD_eq_getElem?_getD]
 have e2 : (p ++ [BitVec.ofInt 8 n, BitVec.ofInt 8 (n / 256)] ++ q).getD (p.length + 1) 0 = BitVec.ofInt 8 (n / 256) := by
  simp [List.getD_eq_getElem?_getD]
 rw [e1, e2]
 unfold wI
 rw [BitVec.toNat_ofInt, BitVec.toNat_ofInt]
 omega
theorem six_rd {x y z : Int} (hx : 0 ≤ x ∧ x ≤ 65535) (hy : 0 ≤ y ∧ y ≤ 65535) (hz : 0 ≤ z ∧ z ≤ 65535) : rdF (two16 x ++ two16 y ++ two16 z) 0 = x ∧ rdF (two16 x ++ two16 y ++ two16 z) 2 = y ∧ rdF (two16 x ++ two16 y ++ two16 z) 4 = z := by
 refine ⟨?_, ?_, ?_⟩
 ·have := two_rd hx.1 hx.2 [] (two16 y ++ two16 z)
  rw [List.append_assoc]; exact this
 ·exact two_rd hy.1 hy.2 (two16 x) (two16 z)
 ·have := two_rd hz.1 hz.2 (two16 x ++ two16 y) []
  rw [List.append_nil] at this; exact this
theorem Loc.sameC {w0 W w : World} {bs : List Bk} {p g T : Nat} {c0 : List Value} (h : Loc w0 W bs) (hin : bs[p]? = some (g, T, c0)) (ho : Out [g] W w) (hn : Lc w g T c0) : Loc w0 w bs := by
 have h1 := h.setC hin ho hn
 have e : bs.set p (g, T, c0) = bs := by
  obtain ⟨hlt, he⟩ := List.getElem?_eq_some_iff.1 hin
  rw [← he]; exact List.set_getElem_self hlt
 rw [e] at h1; exact h1
section
variable {P : Program} {ops : Array Oper}
end
end Go.Proofs.Ytfecopfofkdnpaa
namespace Go.Proofs.Ytfecopfofkdnpaa
open Go.RowKit
open Go.ChangeShapes Go.WideShapes Go.ChangeAt Go.RowKit
section
variable {P : Program} {H : Type} {enc : TypeId × Value → H} {w : World}
theorem open_arr {m : Nat} {r : Reach} {b0 base : Nat} {spare : Nat → Bool} {held : Bool} {T E n : Nat} {k : IntKind} {v : Value} {d : DataW H} {p : List MemPlace} (hm : (k = .u8 ∧ m = 8) ∨ (k = .u32 ∧ m = 32) ∨ (k = .u64 ∧ m = 64))
  (hT : P.underlying T = some (.array n E)) (hE : P.underlying E = some (.int k)) (hc : P.cellsOf E = 1) (hC : P.cellsOf T = n)
  (hv : Value.okWide P w r b0 T v) (h : DataW.Trod enc P w base spare held T v d p) : ∃ l : List (BitVec m), l.length = n ∧ v = .agg (l.map fun x => Value.int k (wI x)).toArray := by
 unfold Value.okWide at hv
 rw [hT] at hv
 obtain ⟨cs, rfl, hsz, _⟩ := hv
 obtain ⟨fuel, hf⟩ := h
 obtain ⟨xs, q, _, _, _, hlen, hall⟩ := DataW.trod_array hT hf
 have hget : ∀ i : Nat, i < n → ∃ x : BitVec m, cs[i]? = some (.int k (wI x)) := fun i hi => by
  have h1 := hall i hi
  rw [hc] at h1
  have h2 : ∃ y, xs[i]? = some y := ⟨xs[i]'(by omega), by simp⟩
  obtain ⟨y, hy⟩ := h2
  rw [hy] at h1
  obtain ⟨z, hz, _, hwf⟩ := DataW.trod_int hE h1
  obtain ⟨x, rfl⟩ := bv_of_wf k hm hwf
  refine ⟨x, ?_⟩
  have hi2 : i < cs.size := by omega
  have : ((cs.toList.drop (i * 1)).take 1)[0]? = some (.int k (wI x)) := by
   have e : (Value.agg cs).cells.toList = cs.toList := rfl
   rw [← e, hz]; rfl
  simpa using this
 have key : ∀ c, c ≤ n → ∃ l : List (BitVec m), l.length = c ∧ cs.toList.take c = l.map fun x => Value.int k (wI x) := by
  intro c
  induction c with
  | zero => intro _; exact ⟨[], rfl, by simp⟩
  | succ c ih =>
   intro hc'
   obtain ⟨l, hl, he⟩ := ih (by omega)
   obtain ⟨x, hx⟩ := hget c (by omega)
   refine ⟨l ++ [x], by simp [hl], ?_⟩
   have hx' : cs.toList[c]? = some (.int k (wI x)) := by simpa using hx
   rw [List.take_add_one, he, hx']; simp
 obtain ⟨l, hl, he⟩ := key n (Nat.le_refl _)
 refine ⟨l, hl, ?_⟩
 rw [List.take_of_length_le (by simp; omega)] at he
 rw [← he]
end
theorem cF40 {h : Hd} (ok : h.Ok) (v : Value) : (cellsF h v)[40]? = some v := by
 rw [cellsF, List.getElem?_append_right (by rw [cellsH_len ok]; exact Nat.le_refl _), cellsH_len ok]; rfl
theorem cF_at {h : Hd} (ok : h.Ok) (v : Value) (i : Nat) (hi : i < 40) : (cellsF h v)[i]? = (cellsH h)[i]? := by
 rw [cellsF, List.getElem?_append_left (by rw [cellsH_len ok]; exact hi)]
theorem cF_head {h : Hd} (_ : h.Ok) (v : Value) : ((cellsF h v).drop 0).take (cellsH h).length = cellsH h := by
 rw [List.drop_zero, cellsF, List.take_append_of_le_length (Nat.le_refl _), List.take_of_length_le (Nat.le_refl _)]
theorem cF_a2 {h : Hd} (ok : h.Ok) (v : Value) : ((cellsF h v).drop 16).take (h.a2.map V8).length = h.a2.map V8 := by
 have hp := pH2 ok
 rw [cellsF, List.drop_append_of_le_length (by rw [cellsH_len ok]; decide), List.take_append_of_le_length (by rw [List.length_drop, cellsH_len ok, List.length_map, ok.l2]; decide)]
 exact hp
theorem sizeHl {h : Hd} (ok : h.Ok) : (Try.prog.info? 28).map (·.size) = some (cellsH h).length := by
 rw [cellsH_len ok]; kernel_rfl
theorem great5_any (h : Hd) (ok : h.Ok) (ad : Option Addr) (n c : Nat) (w : World) :
  Calls Try.prog 9 #[.agg (cellsF h (.slice ad n c)).toArray] w fun e w' => e = .returned (.bool (decide (2400 < n))) ∧ Ext w w' := by
 have H := kp (Loc.start w)
 have H40 := kp (cF40 ok (.slice ad n c))
 clear ok
 go_enter Try.func9, Try.ntmps9
 go_wp2_with (first | (((with_reducible refine isBx 1 31 ?_); (with_reducible refine L_box H rfl 31 _ rfl (cellsF h (.slice ad n c)) rfl ?_); clear H; intro g1 w1 HGg1 HEg1 H; simp only [pA]); have hc := run_load_cell H.out 0 rfl _ _ H40.out))
 go_ret
 exact ⟨congrArg (fun z => Ending.returned (.bool z)) (by refine Bool.eq_iff_iff.2 ?_; simp; omega), H.out.1⟩
theorem look_put {l : List En} {s : En} {t : List (BitVec 8)} (h : l.Pairwise (fun e f => numF e.addr < numF f.addr)) (hl : ∀ e ∈ l, e.addr.length = 6) (hs : s.addr.length = 6) (_ : t.length = 6) : lookF (putF l s) t = if t = s.addr then some s else lookF l t := by
 have hp := put_sorted s h
 by_cases c : t = s.addr
 ·rw [if_pos c, c]; exact look_mem hp (mem_put.2 (.inl rfl))
 ·rw [if_neg c]
  cases hc : lookF l t with
  | some e =>
   obtain ⟨h1, h2⟩ := look_some hc
   rw [← h2]
   refine look_mem hp (mem_put.2 (.inr ⟨h1, fun q => c ?_⟩))
   rw [← h2]; exact num_inj (by rw [hl e h1, hs]) q
  | none =>
   cases hd : lookF (putF l s) t with
   | none => rfl
   | some e =>
    exfalso
    obtain ⟨h1, h2⟩ := look_some hd
    rcases mem_put.1 h1 with rfl | ⟨h1, _⟩
    ·exact c h2.symm
    ·exact look_none hc e h1 h2
theorem look_del {l : List En} (h : l.Pairwise (fun e f => numF e.addr < numF f.addr)) (hl : ∀ e ∈ l, e.addr.length = 6) {s t : List (BitVec 8)} (hs : s.length = 6) : lookF (delF l s) t = if t = s then none else lookF l t := by
 unfold delF
 rw [look_filter _ h]
 cases hc : lookF l t with
 | none => simp
 | some e =>
  obtain ⟨h1, h2⟩ := look_some hc
  show (if neE s e then some e else none) = _
  have : neE s e = decide (t ≠ s) := by
   rw [neE, ← h2]
   refine decide_eq_decide.2 ⟨fun q c => q (by rw [c]), fun q c => q (num_inj (by rw [hl e h1, hs]) c)⟩
  rw [this]
  by_cases c : t = s
  ·simp [c]
  ·simp [c]
theorem look_seen {a : As} {l : List En} (h : OkL a l) (hl : L6 l) {t u : List (BitVec 8)} (hu : u.length = 6) {now : Int} : lookF (seenF l t now) u = if u = t then (lookF l t).map (fun w => { w with seen := max w.seen now }) else lookF l u := by
 cases hc : lookF l t with
 | none =>
  rw [seen_none hc]
  by_cases c : u = t
  ·rw [if_pos c, c, hc]; rfl
  ·rw [if_neg c]
 | some w =>
  obtain ⟨h1, h2⟩ := look_some hc
  rw [seen_some hc, look_put h.sorted hl (by exact hl w h1) hu]
  show (if u = w.addr then _ else _) = _
  by_cases c : u = t
  ·rw [if_pos (c.trans h2.symm), if_pos c]; rfl
  ·rw [if_neg (fun q => c (q.trans h2)), if_neg c]
theorem seen_kept {a : As} {l : List En} (h : OkL a l) (_ : L6 l) {t : List (BitVec 8)} {now : Int} {e : En} (he : e ∈ seenF l t now) (h2 : e.state = 2) : Kept l e := by
 cases hc : lookF l t with
 | none => rw [seen_none hc] at he; exact kept_self h he h2
 | some w =>
  obtain ⟨h1, h3⟩ := look_some hc
  rw [seen_some hc] at he
  rcases mem_put.1 he with rfl | ⟨he, _⟩
  ·exact ⟨w, by rw [show ({ w with seen := max w.seen now } : En).addr = w.addr from rfl, h3]; exact hc, h2, rfl⟩
  ·exact kept_self h he h2
theorem handle_cases (a : As) (l : List En) (hd : Hd) (b : List (BitVec 8)) (now : Int) (he : (handleF dA dJ dL a l hd b now).2.2 = 0) :
  validA a l = true ∧ momentF now = true ∧ validH hd = true ∧ ((addrF a hd = false ∧ handleF dA dJ dL a l hd b now = (l, [], 0)) ∨
   (addrF a hd = true ∧ hd.kind = 0 ∧ handleF dA dJ dL a l hd b now = manageF dA dJ dL a (seenF l hd.a2 now) hd b now) ∨ (addrF a hd = true ∧ hd.kind = 2 ∧ handleF dA dJ dL a l hd b now = dataF a (seenF l hd.a2 now) hd)) := by
 unfold handleF at he ⊢
 cases h1 : validA a l with
 | false => rw [h1] at he; cases he
 | true =>
  cases h2 : momentF now with
  | false => rw [h1, h2] at he; cases he
  | true =>
   cases h3 : validH hd with
   | false => rw [h1, h2, h3] at he; cases he
   | true =>
    refine ⟨rfl, rfl, rfl, ?_⟩
    cases h4 : addrF a hd with
    | false => exact .inl ⟨rfl, rfl⟩
    | true =>
     by_cases c : hd.kind = 0
     ·exact .inr (.inl ⟨rfl, c, by simp [c]⟩)
     ·refine .inr (.inr ⟨rfl, ?_, by simp [c]⟩)
      simp only [addrF, Bool.and_eq_true, Bool.or_eq_true, beq_iff_eq] at h4
      rcases h4.2 with q | q
      ·exact absurd q.1 c
      ·exact q.1.1
theorem handle_ok {a : As} {l : List En} (h : OkL a l) (hl : L6 l) {hd : Hd} (ok : hd.Ok) {b : List (BitVec 8)} {now : Int} (he : (handleF dA dJ dL a l hd b now).2.2 = 0) : StepOk a l (handleF dA dJ dL a l hd b now) (Gives a hd (handleF dA dJ dL a l hd b now).2.1) := by
 obtain ⟨_, hn, hv, c | ⟨ha, _, c⟩ | ⟨ha, _, c⟩⟩ := handle_cases a l hd b now he
 ·rw [c.2]; exact ⟨h, hl, fun e he q => .inl (kept_self h he q)⟩
 ·rw [c] at he ⊢
  obtain ⟨h1, h2, h3⟩ := manage_ok (seen_ok h hn) (seen_l6 hl) (snd_of ok hv ha) hn he
  refine ⟨h1, h2, fun e he q => ?_⟩
  rcases h3 e he q with ⟨w, w1, w2, w3⟩ | ⟨w1, w2⟩
  ·obtain ⟨p1, p2⟩ := look_some w1
   obtain ⟨x, x1, x2, x3⟩ := seen_kept h hl p1 w2
   rw [p2] at x1
   exact .inl ⟨x, x1, x2, by rw [x3, w3]⟩
  ·refine .inr ⟨fun w hw q2 => ?_, w2⟩
   have h6 : e.addr.length = 6 := h2 e he
   have hk := look_seen (now := now) (t := hd.a2) h hl h6
   by_cases c3 : e.addr = hd.a2
   ·rw [if_pos c3, ← c3, hw] at hk
    exact w1 { w with seen := max w.seen now } (by rw [← c3]; exact hk) q2
   ·rw [if_neg c3, hw] at hk
    exact w1 _ hk q2
 ·rw [c]
  refine ⟨?_, ?_, ?_⟩
  ·rw [data_list]; exact seen_ok h hn
  ·rw [data_list]; exact seen_l6 hl
  ·rw [data_list]
   exact fun e he q => .inl (seen_kept h hl he q)
theorem tick_ok {a : As} {l : List En} (h : OkL a l) (hl : L6 l) {now : Int} (he : (tickF a l now).2.2 = 0) : (tickF a l now).1 = l.filter (fun s => !goneE a now s) ∧ StepOk a l (tickF a l now) fun _ => False := by
 unfold tickF at he ⊢
 split at he
 ·cases he
 ·rename_i c1
  split at he
  ·cases he
  ·rename_i c2
   rw [if_neg c1, if_neg c2]
   exact ⟨rfl, ok_sub h List.filter_sublist, hl.sub List.filter_sublist, fun e he q => .inl (kept_self h ((List.filter_sublist).subset he) q)⟩
theorem remove_ok {a : As} {l : List En} (h : OkL a l) (hl : L6 l) {t : List (BitVec 8)} (he : (removeF a l t).2.2 = 0) : (removeF a l t).1 = delF l t ∧ StepOk a l (removeF a l t) fun _ => False := by
 unfold removeF at he ⊢
 split at he
 ·cases he
 ·rename_i c1
  split at he
  ·cases he
  ·rename_i c2
   rw [if_neg c1, if_neg c2]
   exact ⟨rfl, ok_sub h (del_sub _ _), hl.sub (del_sub _ _), fun e he q => .inl (kept_self h ((del_sub _ _).subset he) q)⟩
theorem admit_ok {a : As} {l : List En} (h : OkL a l) (hl : L6 l) {t : List (BitVec 8)} (ht : t.length = 6) {now : Int} (he : (admitF a l t now).2.2 = 0) : (admitF a l t now).1 = putF l (freshE t now) ∧ (admitF a l t now).2.1 = [] ∧ StepOk a l (admitF a l t now) fun _ => False := by
 unfold admitF at he ⊢
 split at he
 ·cases he
 ·rename_i c1
  split at he
  ·cases he
  ·rename_i c2
   split at he
   ·cases he
   ·rename_i c3
    rw [if_neg c1, if_neg c2, if_neg c3]
    simp only [Bool.or_eq_true, not_or, Bool.not_eq_true, beq_eq_false_iff_ne, Bool.not_eq_false'] at c2
    obtain ⟨⟨g1, g2⟩, g3⟩ := c2
    refine ⟨rfl, rfl, ?_, hl.put ht, fun e he q => ?_⟩
    ·cases hc : lookF l t with
     | some w => exact ok_same h (w := w) hc (ent_auth g1 g3) (fun q => by cases q)
     | none =>
      have hlen : l.length ≠ 64 := fun q => by rw [hc, q] at c3; simp at c3
      refine ok_put h (ent_auth g1 g3) g2 ?_ (fun q => by cases q) ?_
      ·have := put_len_none (s := freshE t now) hl ht hc
       have := ok_len h
       omega
      ·have := put_mem_none (s := freshE t now) hl ht hc
       rw [if_neg (by unfold freshE; simp)] at this
       have := h.mem
       omega
    ·rcases mem_put.1 he with rfl | ⟨he, _⟩
     ·cases q
     ·exact .inl (kept_self h he q)
theorem del_split (t : List (BitVec 8)) : ∀ {l : List En}, l.Pairwise (fun e f => numF e.addr < numF f.addr) → delF l t = l.filter (ltE t) ++ l.filter (gtE t)
 | [], _ => rfl
 | e :: l, h => by
  obtain ⟨h1, h2⟩ := List.pairwise_cons.1 h
  have ih := del_split t h2
  unfold delF at ih ⊢
  rcases Nat.lt_trichotomy (numF e.addr) (numF t) with c | c | c
  ·rw [List.filter_cons_of_pos (by simp [neE]; omega), List.filter_cons_of_pos (by simpa [ltE] using c), List.filter_cons_of_neg (by simp [gtE]; omega), ih]
   rfl
  ·rw [List.filter_cons_of_neg (by simp [neE]; omega), List.filter_cons_of_neg (by simp [ltE]; omega), List.filter_cons_of_neg (by simp [gtE]; omega), ih]
  ·have h3 : l.filter (ltE t) = [] := List.filter_eq_nil_iff.2 fun x hx => by have := h1 x hx; simp [ltE]; omega
   rw [h3] at ih
   rw [List.filter_cons_of_pos (by simp [neE]; omega), List.filter_cons_of_neg (by simp [ltE]; omega), List.filter_cons_of_pos (by simpa [gtE] using c), ih, h3]
   rfl
theorem del_put {l : List En} (s : En) (h : l.Pairwise (fun e f => numF e.addr < numF f.addr)) : delF (putF l s) s.addr = delF l s.addr := by
 rw [del_split s.addr h]
 unfold delF putF
 have h1 : (l.filter (ltE s.addr)).filter (neE s.addr) = l.filter (ltE s.addr) := List.filter_eq_self.2 fun e he => by
  have := (List.mem_filter.1 he).2; simp only [ltE, decide_eq_true_eq] at this; simp [neE]; omega
 have h2 : (l.filter (gtE s.addr)).filter (neE s.addr) = l.filter (gtE s.addr) := List.filter_eq_self.2 fun e he => by
  have := (List.mem_filter.1 he).2; simp only [gtE, decide_eq_true_eq] at this; simp [neE]; omega
 rw [List.filter_append, List.filter_cons_of_neg (by simp [neE]), h1, h2]
theorem del_del (l : List En) (t : List (BitVec 8)) : delF (delF l t) t = delF l t := by unfold delF; rw [List.filter_filter]; simp
theorem seen_del {a : As} {l : List En} (h : OkL a l) {t : List (BitVec 8)} {now : Int} : delF (seenF l t now) t = delF l t := by
 cases hc : lookF l t with
 | none => rw [seen_none hc]
 | some w =>
  obtain ⟨_, h2⟩ := look_some hc
  rw [seen_some hc]
  subst h2
  exact del_put { w with seen := max w.seen now } h.sorted
theorem handle_del {a : As} {l : List En} (h : OkL a l) {hd : Hd} {b : List (BitVec 8)} {now : Int} (he : (handleF dA dJ dL a l hd b now).2.2 = 0) : delF (handleF dA dJ dL a l hd b now).1 hd.a2 = delF l hd.a2 := by
 obtain ⟨_, hn, hv, c | ⟨ha, _, c⟩ | ⟨ha, _, c⟩⟩ := handle_cases a l hd b now he
 ·rw [c.2]
 ·rw [c] at he ⊢
  rw [← seen_del (now := now) h]
  have h := seen_ok (t := hd.a2) h hn
  revert h he
  generalize seenF l hd.a2 now = m
  intro he h
  unfold manageF at he ⊢
  split
  ·rename_i q
   rw [if_pos q] at he
   unfold authF at he ⊢
   cases hd0 : dA b with
   | none => rw [hd0] at he; cases he
   | some p =>
    obtain ⟨al, st⟩ := p
    dsimp only
    split
    ·exact del_put (freshE hd.a2 now) h.sorted
    ·rfl
  ·rename_i q
   rw [if_neg q] at he
   split
   ·rename_i q2
    rw [if_pos q2] at he
    unfold joinF at he ⊢
    cases hd0 : dJ (hd.sub == 2) b with
    | none => rw [hd0] at he; cases he
    | some p =>
     obtain ⟨ca, li⟩ := p
     dsimp only
     cases hc : lookF m hd.a2 with
     | none => rfl
     | some s =>
      dsimp only
      obtain ⟨_, h2⟩ := look_some hc
      split
      ·have := del_put ⟨s.addr, 2, joinAid m s, ca, li, s.seen⟩ h.sorted
       rw [show (⟨s.addr, 2, joinAid m s, ca, li, s.seen⟩ : En).addr = s.addr from rfl, h2] at this
       rw [h2]; exact this
      ·rfl
   ·rename_i q2
    rw [if_neg q2] at he
    split
    ·rename_i q3
     rw [if_pos q3] at he
     unfold leaveF at he ⊢
     by_cases c0 : dL b = true
     ·rw [if_pos c0] at he ⊢
      cases hc : lookF m hd.a2 with
      | none => rfl
      | some s =>
       dsimp only
       obtain ⟨_, h2⟩ := look_some hc
       split
       ·exact del_del _ _
       ·have := del_put ⟨s.addr, 1, 0, 0, 0, s.seen⟩ h.sorted
        rw [show (⟨s.addr, 1, 0, 0, 0, s.seen⟩ : En).addr = s.addr from rfl, h2] at this
        rw [h2]; exact this
     ·rw [if_neg c0] at he; cases he
    ·rfl
 ·rw [c, data_list, seen_del h]
theorem look_of_del {l l' : List En} (h : l.Pairwise (fun e f => numF e.addr < numF f.addr)) (h' : l'.Pairwise (fun e f => numF e.addr < numF f.addr)) (hl : L6 l) (hl' : L6 l') {t u : List (BitVec 8)} (ht : t.length = 6) (hd : delF l' t = delF l t) (hne : u ≠ t) : lookF l' u = lookF l u := by
 have h1 := look_del (t := u) h hl ht
 have h2 := look_del (t := u) h' hl' ht
 rw [if_neg hne] at h1 h2
 rw [← h1, ← h2, hd]
def isM (l : List En) (t : List (BitVec 8)) : Bool := match lookF l t with | some w => w.state == 2 | none => false
theorem isM_some {l : List En} {t : List (BitVec 8)} {w : En} (h : lookF l t = some w) : isM l t = (w.state == 2) := by unfold isM; rw [h]
theorem isM_none {l : List En} {t : List (BitVec 8)} (h : lookF l t = none) : isM l t = false := by unfold isM; rw [h]
theorem isM_look {l l' : List En} {t : List (BitVec 8)} (h : lookF l' t = lookF l t) : isM l' t = isM l t := by unfold isM; rw [h]
theorem isM_seen {a : As} {l : List En} (h : OkL a l) (hl : L6 l) {t u : List (BitVec 8)} (hu : u.length = 6) {now : Int} : isM (seenF l t now) u = isM l u := by
 have hk := look_seen (now := now) (t := t) h hl hu
 by_cases c : u = t
 ·rw [if_pos c] at hk
  rw [c] at hk ⊢
  cases hc : lookF l t with
  | none => rw [hc] at hk; rw [isM_none hc, isM_none hk]
  | some w => rw [hc] at hk; rw [isM_some hc, isM_some hk]
 ·rw [if_neg c] at hk
  exact isM_look hk
def outF (m : Bool) (o : Fm) : Bool :=
 if o.1.sub = 11 ∧ frontE o.2 6 = 0 ∧ rdF o.2 4 = 0 then false else if (o.1.sub = 1 ∨ o.1.sub = 3) ∧ respE o.2 = 0 ∧ rdF o.2 2 = 0 then true else m
theorem resp_six {x y z : Int} (hz : 0 ≤ z ∧ z ≤ 255) : respE (two16 x ++ two16 y ++ two16 z) = 0 := by
 have h := two_rd (n := z) (by omega) (by omega) (two16 x ++ two16 y) []
 rw [List.append_nil] at h
 have h : rdF (two16 x ++ two16 y ++ two16 z) 4 = z := h
 unfold respE
 rw [if_neg (show ¬ 2304 < (two16 x ++ two16 y ++ two16 z).length from by simp [two16]), if_neg (show ¬ (two16 x ++ two16 y ++ two16 z).length < 6 from by simp [two16]), if_neg (by omega)]
 rfl
theorem auth_stat_range (l : List En) (t : List (BitVec 8)) (al st : Int) : 0 ≤ authStat l t al st ∧ authStat l t al st ≤ 17 := by
 unfold authStat
 split
 ·omega
 ·split
  ·omega
  ·split <;> omega
theorem join_stat_range (a : As) (l : List En) (s : En) (ca : Int) : 0 ≤ joinStat a l s ca ∧ joinStat a l s ca ≤ 17 := by
 unfold joinStat
 split
 ·omega
 ·split <;> omega
def mineF (a : As) (who : List (BitVec 8)) (hd : Hd) : Bool := hd.kind == 0 && hd.a1 == a.own && hd.a2 == who && hd.a3 == a.own
def byeB (hd : Hd) : Bool := hd.sub == 10 || hd.sub == 12
def updM (a : As) (who : List (BitVec 8)) (hd : Hd) (outs : List Fm) (m : Bool) : Bool :=
 if mineF a who hd then outs.foldl outF (if byeB hd then false else m) else m
theorem manage_mine {a : As} {l : List En} (h : OkL a l) (hl : L6 l) {hd : Hd} (hs : Snd a hd.a2) {b : List (BitVec 8)} {now : Int} (hc0 : 0 ≤ a.caps ∧ a.caps ≤ 65535) (he : (manageF dA dJ dL a l hd b now).2.2 = 0) :
  isM (manageF dA dJ dL a l hd b now).1 hd.a2 = (manageF dA dJ dL a l hd b now).2.1.foldl outF (if byeB hd then false else isM l hd.a2) := by
 unfold manageF at he ⊢
 split at he
 ·rename_i q
  rw [if_pos q]
  have hb : byeB hd = false := by simp [byeB, q]
  rw [hb, if_neg (by simp)]
  unfold authF at he ⊢
  cases hd0 : dA b with
  | none => rw [hd0] at he; cases he
  | some p =>
   obtain ⟨al, st⟩ := p
   have hr := dA_range hd0
   have hst := auth_stat_range l hd.a2 al st
   dsimp only
   have h6 := (six_rd (x := al) (y := (st + 1) % 65536) (z := authStat l hd.a2 al st) ⟨hr.1, hr.2.1⟩ (by omega) (by omega)).2.2
   show _ = outF (isM l hd.a2) (msgH a hd.a2 11, authB al st (authStat l hd.a2 al st))
   unfold outF
   have e1 : (msgH a hd.a2 11).sub = 11 := rfl
   have e2 : frontE (authB al st (authStat l hd.a2 al st)) 6 = 0 := rfl
   have e3 : rdF (authB al st (authStat l hd.a2 al st)) 4 = authStat l hd.a2 al st := h6
   dsimp only
   rw [e1, e2, e3]
   by_cases c : authStat l hd.a2 al st = 0
   ·rw [if_pos c, if_pos ⟨rfl, rfl, c⟩]
    have := look_put (s := freshE hd.a2 now) (t := hd.a2) h.sorted hl hs.len hs.len
    rw [if_pos (show hd.a2 = (freshE hd.a2 now).addr from rfl)] at this
    rw [isM_some this]; rfl
   ·rw [if_neg c, if_neg (fun q => c q.2.2), if_neg (fun q => absurd q.1 (by decide))]
 ·rename_i q
  rw [if_neg q]
  split at he
  ·rename_i q2
   rw [if_pos q2]
   have hb : byeB hd = false := by rcases q2 with q2 | q2 <;> simp [byeB, q2]
   rw [hb, if_neg (by simp)]
   have hok := (join_ok h hl he).l6
   have hok2 := (join_ok h hl he).ok
   unfold joinF at he ⊢
   cases hd0 : dJ (hd.sub == 2) b with
   | none => rw [hd0] at he; cases he
   | some p =>
    obtain ⟨ca, li⟩ := p
    dsimp only
    cases hc : lookF l hd.a2 with
    | none => rfl
    | some s =>
     dsimp only
     obtain ⟨h1, h2⟩ := look_some hc
     have hE := h.ent s h1
     have hsub : (hd.sub + 1 = 1 ∨ hd.sub + 1 = 3) ∧ hd.sub + 1 ≠ 11 := by rcases q2 with q2 | q2 <;> omega
     by_cases c : joinStat a l s ca = 0
     ·rw [if_pos c]
      show isM _ hd.a2 = outF (isM l hd.a2) (msgH a hd.a2 (hd.sub + 1), respB a 0 (joinAid l s))
      have hai : 0 ≤ joinAid l s ∧ joinAid l s ≤ 255 := by
       have := free_range h
       have := ent_cases hE
       unfold joinAid
       split <;> omega
      have e1 : (msgH a hd.a2 (hd.sub + 1)).sub = hd.sub + 1 := rfl
      have e2 : respE (respB a 0 (joinAid l s)) = 0 := resp_six hai
      have e3 : rdF (respB a 0 (joinAid l s)) 2 = 0 := (six_rd hc0 (by omega : (0:Int) ≤ 0 ∧ (0:Int) ≤ 65535) (by omega : 0 ≤ joinAid l s ∧ joinAid l s ≤ 65535)).2.1
      unfold outF
      dsimp only
      rw [e1, e2, e3, if_neg (fun q => hsub.2 q.1), if_pos ⟨hsub.1, rfl, rfl⟩]
      have := look_put (s := ⟨s.addr, 2, joinAid l s, ca, li, s.seen⟩) (t := hd.a2) h.sorted hl (by exact hl s h1) hs.len
      rw [if_pos (show hd.a2 = (⟨s.addr, 2, joinAid l s, ca, li, s.seen⟩ : En).addr from h2.symm)] at this
      rw [isM_some this]; rfl
     ·rw [if_neg c]
      show isM _ hd.a2 = outF (isM l hd.a2) (msgH a hd.a2 (hd.sub + 1), respB a (joinStat a l s ca) 0)
      have hjr := join_stat_range a l s ca
      have e1 : (msgH a hd.a2 (hd.sub + 1)).sub = hd.sub + 1 := rfl
      have e3 : rdF (respB a (joinStat a l s ca) 0) 2 = joinStat a l s ca := (six_rd hc0 (by omega : 0 ≤ joinStat a l s ca ∧ joinStat a l s ca ≤ 65535) (by omega : (0:Int) ≤ 0 ∧ (0:Int) ≤ 65535)).2.1
      unfold outF
      dsimp only
      rw [e1, e3, if_neg (fun q => hsub.2 q.1), if_neg (fun q => c q.2.2)]
  ·rename_i q2
   rw [if_neg q2]
   split at he
   ·rename_i q3
    rw [if_pos q3]
    have hb : byeB hd = true := by rcases q3 with q3 | q3 <;> simp [byeB, q3]
    rw [hb, if_pos rfl]
    unfold leaveF at he ⊢
    by_cases c0 : dL b = true
    ·rw [if_pos c0] at he ⊢
     cases hc : lookF l hd.a2 with
     | none => exact isM_none hc
     | some s =>
      dsimp only
      obtain ⟨h1, h2⟩ := look_some hc
      split
      ·have := look_del (t := hd.a2) h.sorted hl hs.len
       rw [if_pos rfl] at this
       rw [isM_none this]; rfl
      ·have := look_put (s := ⟨s.addr, 1, 0, 0, 0, s.seen⟩) (t := hd.a2) h.sorted hl (by exact hl s h1) hs.len
       rw [if_pos (show hd.a2 = (⟨s.addr, 1, 0, 0, 0, s.seen⟩ : En).addr from h2.symm)] at this
       rw [isM_some this]; rfl
    ·rw [if_neg c0] at he; cases he
   ·rename_i q3
    rw [if_neg q3]
    have hb : byeB hd = false := by
     unfold byeB
     rw [Bool.or_eq_false_iff]
     exact ⟨beq_eq_false_iff_ne.2 fun z => q3 (.inl z), beq_eq_false_iff_ne.2 fun z => q3 (.inr z)⟩
    rw [hb]; rfl
theorem handle_upd {a : As} {l : List En} (h : OkL a l) (hl : L6 l) {hd : Hd} (ok : hd.Ok) {b : List (BitVec 8)} {now : Int} {who : List (BitVec 8)} (hw : who.length = 6) (hwo : who ≠ a.own) (he : (handleF dA dJ dL a l hd b now).2.2 = 0) :
  isM (handleF dA dJ dL a l hd b now).1 who = updM a who hd (handleF dA dJ dL a l hd b now).2.1 (isM l who) := by
 have hso := handle_ok h hl ok he
 have hdel := handle_del h he
 have hother : hd.a2 ≠ who → isM (handleF dA dJ dL a l hd b now).1 who = isM l who := fun q => isM_look (look_of_del h.sorted hso.ok.sorted hl hso.l6 ok.l2 hdel (fun c => q c.symm))
 obtain ⟨_, hn, hv, c | ⟨ha, hk, c⟩ | ⟨ha, hk, c⟩⟩ := handle_cases a l hd b now he
 ·have : mineF a who hd = false := by
   cases hm : mineF a who hd with
   | false => rfl
   | true =>
    exfalso
    simp only [mineF, Bool.and_eq_true, beq_iff_eq] at hm
    obtain ⟨⟨⟨m1, m2⟩, m3⟩, m4⟩ := hm
    have := c.1
    simp [addrF, m1, m2, m3, m4, hwo] at this
  rw [c.2]
  simp [updM, this]
 ·by_cases q : hd.a2 = who
  ·have hm : mineF a who hd = true := by
    simp only [addrF, Bool.and_eq_true, Bool.or_eq_true, beq_iff_eq, hk] at ha
    have ha3 : hd.a3 = a.own := by
     rcases ha.2 with z | z
     ·exact z.2
     ·exact absurd z.1.1 (by decide)
    simp [mineF, hk, q, ha3, ha.1.1]
   rw [c] at he ⊢
   unfold updM
   rw [hm, if_pos rfl, ← q]
   have := manage_mine (seen_ok h hn) (seen_l6 hl) (snd_of ok hv ha) (ok_caps h) he
   rw [this, isM_seen h hl ok.l2]
  ·rw [hother q]
   have : mineF a who hd = false := by simp [mineF, q]
   simp [updM, this]
 ·have : mineF a who hd = false := by simp [mineF, hk]
  unfold updM
  rw [this, if_neg (by simp), c, data_list, isM_seen h hl hw]
theorem fold_bye (a : As) (who : List (BitVec 8)) : ∀ (l : List En) (m : Bool), (l.map fun s => byeF a s.addr 12 4).foldl (fun m (o : Fm) => if o.1.a1 = who then false else m) m = if l.any (hasAddr who) then false else m
 | [], m => rfl
 | e :: l, m => by
  rw [List.map_cons, List.foldl_cons, fold_bye a who l]
  show _ = if (hasAddr who e || l.any (hasAddr who)) then _ else _
  have e1 : (byeF a e.addr 12 4).1.a1 = e.addr := rfl
  rw [e1]
  by_cases c : e.addr = who
  ·simp [hasAddr, c]
  ·simp [hasAddr, c]
theorem tick_upd {a : As} {l : List En} (h : OkL a l) {now : Int} {who : List (BitVec 8)} (he : (tickF a l now).2.2 = 0) : isM (tickF a l now).1 who = (tickF a l now).2.1.foldl (fun m (o : Fm) => if o.1.a1 = who then false else m) (isM l who) := by
 unfold tickF at he ⊢
 split at he
 ·cases he
 ·rename_i c1
  split at he
  ·cases he
  ·rename_i c2
   rw [if_neg c1, if_neg c2]
   dsimp only
   rw [fold_bye]
   have hk := look_filter (fun s => !goneE a now s) h.sorted who
   cases hc : lookF l who with
   | none =>
    rw [hc] at hk
    rw [isM_none hc, isM_none hk]; simp
   | some w =>
    obtain ⟨h1, h2⟩ := look_some hc
    rw [hc] at hk
    dsimp only at hk
    cases hg : goneE a now w with
    | true =>
     rw [hg] at hk
     rw [isM_none hk, if_pos]
     exact List.any_eq_true.2 ⟨w, List.mem_filter.2 ⟨h1, hg⟩, by simp [hasAddr, h2]⟩
    | false =>
     rw [hg] at hk
     rw [isM_some hc, isM_some hk, if_neg]
     intro q
     obtain ⟨x, hx, hx2⟩ := List.any_eq_true.1 q
     obtain ⟨x1, x2⟩ := List.mem_filter.1 hx
     have hxa : x.addr = who := by simpa [hasAddr] using hx2
     rw [pair_inj h.sorted x1 h1 (by rw [hxa, h2]), hg] at x2
     cases x2
theorem remove_upd {a : As} {l : List En} (h : OkL a l) (hl : L6 l) {t who : List (BitVec 8)} (ht : t.length = 6) (he : (removeF a l t).2.2 = 0) : isM (removeF a l t).1 who = if t = who then false else isM l who := by
 rw [(remove_ok h hl he).1]
 have hk := look_del (t := who) h.sorted hl ht
 by_cases c : t = who
 ·rw [if_pos c.symm] at hk; rw [if_pos c, isM_none hk]
 ·rw [if_neg (fun z => c z.symm)] at hk; rw [if_neg c, isM_look hk]
theorem admit_upd {a : As} {l : List En} (h : OkL a l) (hl : L6 l) {t who : List (BitVec 8)} (ht : t.length = 6) (hw : who.length = 6) {now : Int} (he : (admitF a l t now).2.2 = 0) : isM (admitF a l t now).1 who = if t = who then false else isM l who := by
 rw [(admit_ok h hl ht he).1]
 have hk := look_put (s := freshE t now) (t := who) h.sorted hl ht hw
 by_cases c : t = who
 ·rw [if_pos (show who = (freshE t now).addr from c.symm)] at hk; rw [if_pos c, isM_some hk]; rfl
 ·rw [if_neg (show ¬ who = (freshE t now).addr from fun z => c z.symm)] at hk; rw [if_neg c, isM_look hk]
def probeH (a : As) (who : List (BitVec 8)) : Hd := { zeroHd with kind := 2, toDs := true, a1 := a.own, a2 := who }
theorem probe_addr {a : As} {who : List (BitVec 8)} (h : who ≠ a.own) : addrF a (probeH a who) = true := by simp [addrF, probeH, zeroHd, h]
theorem probe_allow {a : As} {l : List En} {who : List (BitVec 8)} (h : OkL a l) (hw : who ≠ a.own) (hv : validH (probeH a who) = true) : allowF a l (probeH a who) = isM l who := by
 unfold allowF
 rw [(valid_iff a l).2 h, hv, probe_addr hw, if_pos (show (probeH a who).kind = 2 from rfl), findE_look, (valid_iff a l).2 h]
 show _ = isM l who
 unfold isM
 show (true && true && true && _) = _
 have e : (probeH a who).a2 = who := rfl
 rw [e]
 cases lookF l who <;> rfl
theorem probe_handle {a : As} {l : List En} {who : List (BitVec 8)} (h : OkL a l) (hl : L6 l) (hwl : who.length = 6) (hw : who ≠ a.own) (hv : validH (probeH a who) = true) (b : List (BitVec 8)) :
  (handleF dA dJ dL a l (probeH a who) b 0).2.2 = 0 ∧ ((handleF dA dJ dL a l (probeH a who) b 0).2.1.length = 0 ↔ isM l who = true) := by
 have h0 : handleF dA dJ dL a l (probeH a who) b 0 = dataF a (seenF l who 0) (probeH a who) := by
  unfold handleF
  rw [(valid_iff a l).2 h, hv, probe_addr hw]
  rfl
 rw [h0, ← isM_seen (t := who) (now := 0) h hl hwl]
 unfold dataF isM
 have e : (probeH a who).a2 = who := rfl
 rw [e]
 cases hc : lookF (seenF l who 0) who with
 | none => simp
 | some w =>
  dsimp only
  by_cases c : w.state = 2
  ·simp [c]
  ·simp [c]
def subsA (s : Int) : Prop := s = 1 ∨ s = 3 ∨ s = 10 ∨ s = 11 ∨ s = 12
def AnsP (a : As) (t : List (BitVec 8)) (o : Fm) : Prop := ∃ sub, subsA sub ∧ o.1 = msgH a t sub ∧ o.2.length ≤ 6
theorem bye_ans (a : As) (t : List (BitVec 8)) (sub r : Int) (h : subsA sub) : AnsP a t (byeF a t sub r) := ⟨sub, h, rfl, by simp [byeF, two16]⟩
theorem six_le (x y z : Int) : (two16 x ++ two16 y ++ two16 z).length ≤ 6 := Nat.le_of_eq rfl
theorem handle_ans (a : As) (l : List En) (hd : Hd) (b : List (BitVec 8)) (now : Int) : (handleF dA dJ dL a l hd b now).2.1.length ≤ 1 ∧ ∀ o ∈ (handleF dA dJ dL a l hd b now).2.1, AnsP a hd.a2 o := by
 have one : ∀ o : Fm, AnsP a hd.a2 o → [o].length ≤ 1 ∧ ∀ x ∈ [o], AnsP a hd.a2 x := fun o ho => ⟨Nat.le_refl _, fun x hx => by rw [List.mem_singleton.1 hx]; exact ho⟩
 have nil : ([] : List Fm).length ≤ 1 ∧ ∀ x ∈ ([] : List Fm), AnsP a hd.a2 x := ⟨Nat.zero_le _, fun x hx => by cases hx⟩
 unfold handleF
 split
 ·exact nil
 ·split
  ·exact nil
  ·split
   ·exact nil
   ·split
    ·unfold manageF
     split
     ·unfold authF
      split
      ·exact nil
      ·exact one _ ⟨11, by simp [subsA], rfl, six_le _ _ _⟩
     ·split
      ·rename_i q
       have hs : subsA (hd.sub + 1) := by
        unfold subsA
        rcases q with q | q <;> omega
       unfold joinF
       split
       ·exact nil
       ·split
        ·exact one _ (bye_ans _ _ _ _ (by simp [subsA]))
        ·split
         ·exact one _ ⟨_, hs, rfl, six_le _ _ _⟩
         ·exact one _ ⟨_, hs, rfl, six_le _ _ _⟩
      ·split
       ·unfold leaveF
        split
        ·split
         ·exact nil
         ·split <;> exact nil
        ·exact nil
       ·exact nil
    ·unfold dataF
     split
     ·exact one _ (bye_ans _ _ _ _ (by simp [subsA]))
     ·split
      ·exact nil
      ·exact one _ (bye_ans _ _ _ _ (by simp [subsA]))
end Go.Proofs.Ytfecopfofkdnpaa
