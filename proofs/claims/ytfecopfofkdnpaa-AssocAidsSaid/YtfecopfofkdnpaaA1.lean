/- Texts of this proof, put together: Qz, Pl30c, ElF, FreeC, Open, Same, Pl30d, Pl30e, Pl30f. -/
import Derived.ProofKit
import Derived.OpenShut
import Derived.Test.YtfecopfofkdnpaaS1
import Derived.Test.YtfecopfofkdnpaaS2
import Derived.Test.YtfecopfofkdnpaaS3
import Derived.Test.YtfecopfofkdnpaaS4
import Derived.Test.YtfecopfofkdnpaaS5
import Derived.Test.YtfecopfofkdnpaaS6
import Derived.Test.YtfecopfofkdnpaaS7
import Derived.Test.YtfecopfofkdnpaaS8
import Derived.Test.YtfecopfofkdnpaaS9
import Derived.Test.YtfecopfofkdnpaaS10
import Derived.Test.YtfecopfofkdnpaaS11
import Derived.Test.YtfecopfofkdnpaaS12
import Derived.Test.YtfecopfofkdnpaaS13
import Derived.Test.YtfecopfofkdnpaaS14
import Derived.Test.YtfecopfofkdnpaaS15
import Derived.Test.YtfecopfofkdnpaaS16
import Derived.Test.YtfecopfofkdnpaaS17
import Derived.Test.YtfecopfofkdnpaaS18
import Derived.Test.YtfecopfofkdnpaaS19
import Derived.Test.YtfecopfofkdnpaaS20
import Derived.Test.YtfecopfofkdnpaaS21
import Derived.Test.YtfecopfofkdnpaaS22
import Derived.Test.YtfecopfofkdnpaaS23
import Derived.Test.YtfecopfofkdnpaaS24
import Derived.Test.YtfecopfofkdnpaaS25
import Derived.Test.YtfecopfofkdnpaaS26
import Derived.Test.YtfecopfofkdnpaaS27
import Derived.Test.YtfecopfofkdnpaaS28
import Derived.Test.YtfecopfofkdnpaaS29
import Derived.Test.YtfecopfofkdnpaaS30
namespace Go.Proofs.Ytfecopfofkdnpaa
open Go.RowKit
section
variable {P : Program}
variable {o : Oper} {a : Act} {w0 w : World} {x0 : Xtra} {K : Act → Prop} {bs : List Bk}
theorem qz_eq (t u : TypeId) (x y : Operand) (ho : o.op = .binOp .eql t x y u) (cx cy : List Value) (b : Bool) (hx : a.eval x = .agg cx.toArray) (hy : a.eval y = .agg cy.toArray) (hg : P.eqGuardType P.depth t = false) (hq : ∀ w', (Op.equalIn 10000 t (.agg cx.toArray) (.agg cy.toArray)).run P w' = .ok b w')
  (h : K (a.put o.dst (.bool b))) : o.quiet P a (Cx w x0) K :=
 qz_b .eql t u x y ho _ _ _ hx hy (fun _ => run_eqGuard_agg _ _ _ _ _ _ _ hg) (fun w' => by rw [run_eql_struct, hq w']; rfl) h
end
section
variable (dA : List (BitVec 8) → Option (Int × Int)) (dJ : Bool → List (BitVec 8) → Option (Int × Int)) (dL : List (BitVec 8) → Bool)
end
def removeF (a : As) (l : List En) (t : List (BitVec 8)) : Rs :=
 if !validA a l then ([], [], 8) else if (lookF l t).isNone then ([], [], 6) else (delF l t, [byeF a t 12 8], 0)
def admitF (a : As) (l : List En) (t : List (BitVec 8)) (now : Int) : Rs :=
 if !validA a l then ([], [], 8) else if groupF t || t == a.own || !momentF now then ([], [], 2)
 else if (lookF l t).isNone && l.length == 64 then ([], [], 22) else (putF l (freshE t now), [], 0)
theorem two_rd {n : Int} (h0 : 0 ≤ n) (h1 : n ≤ 65535) (p q : List (BitVec 8)) : rdF (p ++ two16 n ++ q) p.length = n := by
 unfold rdF two16
 have e1 : (p ++ [BitVec.ofInt 8 n, BitVec.ofInt 8 (n / 256)] ++ q).getD p.length 0 = BitVec.ofInt 8 n := by simp [List.getD_eq_getElem?_getD]
 have e2 : (p ++ [BitVec.ofInt 8 n, BitVec.ofInt 8 (n / 256)] ++ q).getD (p.length + 1) 0 = BitVec.ofInt 8 (n / 256) := by
  simp [List.getD_eq_getElem?_getD]
 rw [e1, e2]
 unfold wI
 rw [BitVec.toNat_ofInt, BitVec.toNat_ofInt]
 omega
theorem six_rd {x y z : Int} (hx : 0 ≤ x ∧ x ≤ 65535) (hy : 0 ≤ y ∧ y ≤ 65535) (hz : 0 ≤ z ∧ z ≤ 65535) : rdF (two16 x ++ two16 y ++ two16 z) 0 = x ∧ rdF (two16 x ++ two16 y ++ two16 z) 2 = y ∧ rdF (two16 x ++ two16 y ++ two16 z) 4 = z := by
 refine ⟨?_, ?_, ?_⟩
 ·have := two_rd hx.1 hx.2 [] (two16 y ++ two16 z)
  rw [List.append_assoc]; exact this
 ·exact two_rd hy.1 hy.2 (two16 x) (two16 z)
 ·have := two_rd hz.1 hz.2 (two16 x ++ two16 y) []
  rw [List.append_nil] at this; exact this
theorem Loc.sameC {w0 W w : World} {bs : List Bk} {p g T : Nat} {c0 : List Value} (h : Loc w0 W bs) (hin : bs[p]? = some (g, T, c0)) (ho : Out [g] W w) (hn : Lc w g T c0) : Loc w0 w bs := by
 have h1 := h.setC hin ho hn
 have e : bs.set p (g, T, c0) = bs := by
  obtain ⟨hlt, he⟩ := List.getElem?_eq_some_iff.1 hin
  rw [← he]; exact List.set_getElem_self hlt
 rw [e] at h1; exact h1
section
variable {P : Program} {ops : Array Oper}
end
end Go.Proofs.Ytfecopfofkdnpaa
namespace Go.Proofs.Ytfecopfofkdnpaa
open Go.RowKit
open Go.ChangeShapes Go.WideShapes Go.ChangeAt Go.RowKit
section
variable {P : Program} {H : Type} {enc : TypeId × Value → H} {w : World}
theorem open_arr {m : Nat} {r : Reach} {b0 base : Nat} {spare : Nat → Bool} {held : Bool} {T E n : Nat} {k : IntKind} {v : Value} {d : DataW H} {p : List MemPlace} (hm : (k = .u8 ∧ m = 8) ∨ (k = .u32 ∧ m = 32) ∨ (k = .u64 ∧ m = 64))
  (hT : P.underlying T = some (.array n E)) (hE : P.underlying E = some (.int k)) (hc : P.cellsOf E = 1) (hC : P.cellsOf T = n)
  (hv : Value.okWide P w r b0 T v) (h : DataW.Trod enc P w base spare held T v d p) : ∃ l : List (BitVec m), l.length = n ∧ v = .agg (l.map fun x => Value.int k (wI x)).toArray := by
 unfold Value.okWide at hv
 rw [hT] at hv
 obtain ⟨cs, rfl, hsz, _⟩ := hv
 obtain ⟨fuel, hf⟩ := h
 obtain ⟨xs, q, _, _, _, hlen, hall⟩ := DataW.trod_array hT hf
 have hget : ∀ i : Nat, i < n → ∃ x : BitVec m, cs[i]? = some (.int k (wI x)) := fun i hi => by
  have h1 := hall i hi
  rw [hc] at h1
  have h2 : ∃ y, xs[i]? = some y := ⟨xs[i]'(by omega), by simp⟩
  obtain ⟨y, hy⟩ := h2
  rw [hy] at h1
  obtain ⟨z, hz, _, hwf⟩ := DataW.trod_int hE h1
  obtain ⟨x, rfl⟩ := bv_of_wf k hm hwf
  refine ⟨x, ?_⟩
  have hi2 : i < cs.size := by omega
  have : ((cs.toList.drop (i * 1)).take 1)[0]? = some (.int k (wI x)) := by
   have e : (Value.agg cs).cells.toList = cs.toList := rfl
   rw [← e, hz]; rfl
  simpa using this
 have key : ∀ c, c ≤ n → ∃ l : List (BitVec m), l.length = c ∧ cs.toList.take c = l.map fun x => Value.int k (wI x) := by
  intro c
  induction c with
  | zero => intro _; exact ⟨[], rfl, by simp⟩
  | succ c ih =>
   intro hc'
   obtain ⟨l, hl, he⟩ := ih (by omega)
   obtain ⟨x, hx⟩ := hget c (by omega)
   refine ⟨l ++ [x], by simp [hl], ?_⟩
   have hx' : cs.toList[c]? = some (.int k (wI x)) := by simpa using hx
   rw [List.take_add_one, he, hx']; simp
 obtain ⟨l, hl, he⟩ := key n (Nat.le_refl _)
 refine ⟨l, hl, ?_⟩
 rw [List.take_of_length_le (by simp; omega)] at he
 rw [← he]
end
theorem cF40 {h : Hd} (ok : h.Ok) (v : Value) : (cellsF h v)[40]? = some v := by
 rw [cellsF, List.getElem?_append_right (by rw [cellsH_len ok]; exact Nat.le_refl _), cellsH_len ok]; rfl
theorem great5_any (h : Hd) (ok : h.Ok) (ad : Option Addr) (n c : Nat) (w : World) :
  Calls Try.prog 9 #[.agg (cellsF h (.slice ad n c)).toArray] w fun e w' => e = .returned (.bool (decide (2400 < n))) ∧ Ext w w' := by
 have H := kp (Loc.start w)
 have H40 := kp (cF40 ok (.slice ad n c))
 clear ok
 go_enter Try.func9, Try.ntmps9
 go_wp2_with (first | (((with_reducible refine isBx 1 31 ?_); (with_reducible refine L_box H rfl 31 _ rfl (cellsF h (.slice ad n c)) rfl ?_); clear H; intro g1 w1 HGg1 HEg1 H; simp only [pA]); have hc := run_load_cell H.out 0 rfl _ _ H40.out))
 go_ret
 exact ⟨congrArg (fun z => Ending.returned (.bool z)) (by refine Bool.eq_iff_iff.2 ?_; simp; omega), H.out.1⟩
theorem look_put {l : List En} {s : En} {t : List (BitVec 8)} (h : l.Pairwise (fun e f => numF e.addr < numF f.addr)) (hl : ∀ e ∈ l, e.addr.length = 6) (hs : s.addr.length = 6) (_ : t.length = 6) : lookF (putF l s) t = if t = s.addr then some s else lookF l t := by
 have hp := put_sorted s h
 by_cases c : t = s.addr
 ·rw [if_pos c, c]; exact look_mem hp (mem_put.2 (.inl rfl))
 ·rw [if_neg c]
  cases hc : lookF l t with
  | some e =>
   obtain ⟨h1, h2⟩ := look_some hc
   rw [← h2]
   refine look_mem hp (mem_put.2 (.inr ⟨h1, fun q => c ?_⟩))
   rw [← h2]; exact num_inj (by rw [hl e h1, hs]) q
  | none =>
   cases hd : lookF (putF l s) t with
   | none => rfl
   | some e =>
    exfalso
    obtain ⟨h1, h2⟩ := look_some hd
    rcases mem_put.1 h1 with rfl | ⟨h1, _⟩
    ·exact c h2.symm
    ·exact look_none hc e h1 h2
theorem look_seen {a : As} {l : List En} (h : OkL a l) (hl : L6 l) {t u : List (BitVec 8)} (hu : u.length = 6) {now : Int} : lookF (seenF l t now) u = if u = t then (lookF l t).map (fun w => { w with seen := max w.seen now }) else lookF l u := by
 cases hc : lookF l t with
 | none =>
  rw [seen_none hc]
  by_cases c : u = t
  ·rw [if_pos c, c, hc]; rfl
  ·rw [if_neg c]
 | some w =>
  obtain ⟨h1, h2⟩ := look_some hc
  rw [seen_some hc, look_put h.sorted hl (by exact hl w h1) hu]
  show (if u = w.addr then _ else _) = _
  by_cases c : u = t
  ·rw [if_pos (c.trans h2.symm), if_pos c]; rfl
  ·rw [if_neg (fun q => c (q.trans h2)), if_neg c]
theorem seen_kept {a : As} {l : List En} (h : OkL a l) (_ : L6 l) {t : List (BitVec 8)} {now : Int} {e : En} (he : e ∈ seenF l t now) (h2 : e.state = 2) : Kept l e := by
 cases hc : lookF l t with
 | none => rw [seen_none hc] at he; exact kept_self h he h2
 | some w =>
  obtain ⟨h1, h3⟩ := look_some hc
  rw [seen_some hc] at he
  rcases mem_put.1 he with rfl | ⟨he, _⟩
  ·exact ⟨w, by rw [show ({ w with seen := max w.seen now } : En).addr = w.addr from rfl, h3]; exact hc, h2, rfl⟩
  ·exact kept_self h he h2
theorem handle_cases (a : As) (l : List En) (hd : Hd) (b : List (BitVec 8)) (now : Int) (he : (handleF dA dJ dL a l hd b now).2.2 = 0) :
  validA a l = true ∧ momentF now = true ∧ validH hd = true ∧ ((addrF a hd = false ∧ handleF dA dJ dL a l hd b now = (l, [], 0)) ∨
   (addrF a hd = true ∧ hd.kind = 0 ∧ handleF dA dJ dL a l hd b now = manageF dA dJ dL a (seenF l hd.a2 now) hd b now) ∨ (addrF a hd = true ∧ hd.kind = 2 ∧ handleF dA dJ dL a l hd b now = dataF a (seenF l hd.a2 now) hd)) := by
 unfold handleF at he ⊢
 cases h1 : validA a l with
 | false => rw [h1] at he; cases he
 | true =>
  cases h2 : momentF now with
  | false => rw [h1, h2] at he; cases he
  | true =>
   cases h3 : validH hd with
   | false => rw [h1, h2, h3] at he; cases he
   | true =>
    refine ⟨rfl, rfl, rfl, ?_⟩
    cases h4 : addrF a hd with
    | false => exact .inl ⟨rfl, rfl⟩
    | true =>
     by_cases c : hd.kind = 0
     ·exact .inr (.inl ⟨rfl, c, by simp [c]⟩)
     ·refine .inr (.inr ⟨rfl, ?_, by simp [c]⟩)
      simp only [addrF, Bool.and_eq_true, Bool.or_eq_true, beq_iff_eq] at h4
      rcases h4.2 with q | q
      ·exact absurd q.1 c
      ·exact q.1.1
theorem handle_ok {a : As} {l : List En} (h : OkL a l) (hl : L6 l) {hd : Hd} (ok : hd.Ok) {b : List (BitVec 8)} {now : Int} (he : (handleF dA dJ dL a l hd b now).2.2 = 0) : StepOk a l (handleF dA dJ dL a l hd b now) (Gives a hd (handleF dA dJ dL a l hd b now).2.1) := by
 obtain ⟨_, hn, hv, c | ⟨ha, _, c⟩ | ⟨ha, _, c⟩⟩ := handle_cases a l hd b now he
 ·rw [c.2]; exact ⟨h, hl, fun e he q => .inl (kept_self h he q)⟩
 ·rw [c] at he ⊢
  obtain ⟨h1, h2, h3⟩ := manage_ok (seen_ok h hn) (seen_l6 hl) (snd_of ok hv ha) hn he
  refine ⟨h1, h2, fun e he q => ?_⟩
  rcases h3 e he q with ⟨w, w1, w2, w3⟩ | ⟨w1, w2⟩
  ·obtain ⟨p1, p2⟩ := look_some w1
   obtain ⟨x, x1, x2, x3⟩ := seen_kept h hl p1 w2
   rw [p2] at x1
   exact .inl ⟨x, x1, x2, by rw [x3, w3]⟩
  ·refine .inr ⟨fun w hw q2 => ?_, w2⟩
   have h6 : e.addr.length = 6 := h2 e he
   have hk := look_seen (now := now) (t := hd.a2) h hl h6
   by_cases c3 : e.addr = hd.a2
   ·rw [if_pos c3, ← c3, hw] at hk
    exact w1 { w with seen := max w.seen now } (by rw [← c3]; exact hk) q2
   ·rw [if_neg c3, hw] at hk
    exact w1 _ hk q2
 ·rw [c]
  refine ⟨?_, ?_, ?_⟩
  ·rw [data_list]; exact seen_ok h hn
  ·rw [data_list]; exact seen_l6 hl
  ·rw [data_list]
   exact fun e he q => .inl (seen_kept h hl he q)
theorem tick_ok {a : As} {l : List En} (h : OkL a l) (hl : L6 l) {now : Int} (he : (tickF a l now).2.2 = 0) : (tickF a l now).1 = l.filter (fun s => !goneE a now s) ∧ StepOk a l (tickF a l now) fun _ => False := by
 unfold tickF at he ⊢
 split at he
 ·cases he
 ·rename_i c1
  split at he
  ·cases he
  ·rename_i c2
   rw [if_neg c1, if_neg c2]
   exact ⟨rfl, ok_sub h List.filter_sublist, hl.sub List.filter_sublist, fun e he q => .inl (kept_self h ((List.filter_sublist).subset he) q)⟩
theorem remove_ok {a : As} {l : List En} (h : OkL a l) (hl : L6 l) {t : List (BitVec 8)} (he : (removeF a l t).2.2 = 0) : (removeF a l t).1 = delF l t ∧ StepOk a l (removeF a l t) fun _ => False := by
 unfold removeF at he ⊢
 split at he
 ·cases he
 ·rename_i c1
  split at he
  ·cases he
  ·rename_i c2
   rw [if_neg c1, if_neg c2]
   exact ⟨rfl, ok_sub h (del_sub _ _), hl.sub (del_sub _ _), fun e he q => .inl (kept_self h ((del_sub _ _).subset he) q)⟩
theorem admit_ok {a : As} {l : List En} (h : OkL a l) (hl : L6 l) {t : List (BitVec 8)} (ht : t.length = 6) {now : Int} (he : (admitF a l t now).2.2 = 0) : (admitF a l t now).1 = putF l (freshE t now) ∧ (admitF a l t now).2.1 = [] ∧ StepOk a l (admitF a l t now) fun _ => False := by
 unfold admitF at he ⊢
 split at he
 ·cases he
 ·rename_i c1
  split at he
  ·cases he
  ·rename_i c2
   split at he
   ·cases he
   ·rename_i c3
    rw [if_neg c1, if_neg c2, if_neg c3]
    simp only [Bool.or_eq_true, not_or, Bool.not_eq_true, beq_eq_false_iff_ne, Bool.not_eq_false'] at c2
    obtain ⟨⟨g1, g2⟩, g3⟩ := c2
    refine ⟨rfl, rfl, ?_, hl.put ht, fun e he q => ?_⟩
    ·cases hc : lookF l t with
     | some w => exact ok_same h (w := w) hc (ent_auth g1 g3) (fun q => by cases q)
     | none =>
      have hlen : l.length ≠ 64 := fun q => by rw [hc, q] at c3; simp at c3
      refine ok_put h (ent_auth g1 g3) g2 ?_ (fun q => by cases q) ?_
      ·have := put_len_none (s := freshE t now) hl ht hc
       have := ok_len h
       omega
      ·have := put_mem_none (s := freshE t now) hl ht hc
       rw [if_neg (by unfold freshE; simp)] at this
       have := h.mem
       omega
    ·rcases mem_put.1 he with rfl | ⟨he, _⟩
     ·cases q
     ·exact .inl (kept_self h he q)
theorem resp_six {x y z : Int} (hz : 0 ≤ z ∧ z ≤ 255) : respE (two16 x ++ two16 y ++ two16 z) = 0 := by
 have h := two_rd (n := z) (by omega) (by omega) (two16 x ++ two16 y) []
 rw [List.append_nil] at h
 have h : rdF (two16 x ++ two16 y ++ two16 z) 4 = z := h
 unfold respE
 rw [if_neg (show ¬ 2304 < (two16 x ++ two16 y ++ two16 z).length from by simp [two16]), if_neg (show ¬ (two16 x ++ two16 y ++ two16 z).length < 6 from by simp [two16]), if_neg (by omega)]
 rfl
def subsA (s : Int) : Prop := s = 1 ∨ s = 3 ∨ s = 10 ∨ s = 11 ∨ s = 12
def AnsP (a : As) (t : List (BitVec 8)) (o : Fm) : Prop := ∃ sub, subsA sub ∧ o.1 = msgH a t sub ∧ o.2.length ≤ 6
theorem bye_ans (a : As) (t : List (BitVec 8)) (sub r : Int) (h : subsA sub) : AnsP a t (byeF a t sub r) := ⟨sub, h, rfl, by simp [byeF, two16]⟩
theorem six_le (x y z : Int) : (two16 x ++ two16 y ++ two16 z).length ≤ 6 := Nat.le_of_eq rfl
theorem handle_ans (a : As) (l : List En) (hd : Hd) (b : List (BitVec 8)) (now : Int) : (handleF dA dJ dL a l hd b now).2.1.length ≤ 1 ∧ ∀ o ∈ (handleF dA dJ dL a l hd b now).2.1, AnsP a hd.a2 o := by
 have one : ∀ o : Fm, AnsP a hd.a2 o → [o].length ≤ 1 ∧ ∀ x ∈ [o], AnsP a hd.a2 x := fun o ho => ⟨Nat.le_refl _, fun x hx => by rw [List.mem_singleton.1 hx]; exact ho⟩
 have nil : ([] : List Fm).length ≤ 1 ∧ ∀ x ∈ ([] : List Fm), AnsP a hd.a2 x := ⟨Nat.zero_le _, fun x hx => by cases hx⟩
 unfold handleF
 split
 ·exact nil
 ·split
  ·exact nil
  ·split
   ·exact nil
   ·split
    ·unfold manageF
     split
     ·unfold authF
      split
      ·exact nil
      ·exact one _ ⟨11, by simp [subsA], rfl, six_le _ _ _⟩
     ·split
      ·rename_i q
       have hs : subsA (hd.sub + 1) := by
        unfold subsA
        rcases q with q | q <;> omega
       unfold joinF
       split
       ·exact nil
       ·split
        ·exact one _ (bye_ans _ _ _ _ (by simp [subsA]))
        ·split
         ·exact one _ ⟨_, hs, rfl, six_le _ _ _⟩
         ·exact one _ ⟨_, hs, rfl, six_le _ _ _⟩
      ·split
       ·unfold leaveF
        split
        ·split
         ·exact nil
         ·split <;> exact nil
        ·exact nil
       ·exact nil
    ·unfold dataF
     split
     ·exact one _ (bye_ans _ _ _ _ (by simp [subsA]))
     ·split
      ·exact nil
      ·exact one _ (bye_ans _ _ _ _ (by simp [subsA]))
end Go.Proofs.Ytfecopfofkdnpaa
