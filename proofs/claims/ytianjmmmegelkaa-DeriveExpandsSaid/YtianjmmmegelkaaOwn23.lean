/- derive.Input returns a row of its own; the law's twin. -/
import Derived.Test.YtianjmmmegelkaaRefMac
namespace Go.Proofs.Ytianjmmmegelkaa
open Go.RowKit

theorem owns_base {w : World} {base base' E n : Nat} {v : Value} {xs : List Value} (h : w.ownsRow base E 1 v n xs) (hb : base' ≤ base) : w.ownsRow base' E 1 v n xs := by
  obtain ⟨h1, h2⟩ := h
  rcases h2 with h2 | ⟨g, cap, cur, h3, hg, h4⟩
  · exact ⟨h1, .inl h2⟩
  · exact ⟨h1, .inr ⟨g, cap, cur, h3, Nat.le_trans hb hg, h4⟩⟩
set_option maxHeartbeats 1600000 in
theorem djoin_own (b c : Nat) (vs : List Value) (ls : List (List (BitVec 8))) (w : World) (hb : w.heap[b]? = some (.cells vs.toArray 22 (0, 0))) (hp : Parts w vs ls) (hn : vs.length ≤ 1000) (hlen : ls.flatten.length ≤ 1000000) :
    Calls Try.prog 23 #[.slice (some ⟨b, 0, none⟩) vs.length c] w (RetO ls.flatten w) := by
  obtain ⟨iu, hiu, hu⟩ : ∃ iu, Try.prog.info? 5 = some iu ∧ iu.zero = some (.int .u8 0) ∧ iu.size = 1 ∧ iu.bytes = 1 := by
    have h := info_u8
    cases hq : Try.prog.info? 5 with
    | none => simp [hq] at h
    | some iu => simp [hq] at h; exact ⟨iu, rfl, h⟩
  have HIU := kp hiu
  have HU := kp hu
  have HB := kp hb
  have HP := kp hp
  have HLEN := kp hlen
  obtain ⟨n, hnn⟩ : ∃ n, n = vs.length := ⟨_, rfl⟩
  rw [← hnn] at hn ⊢
  have HN := kp hnn
  have hbs : b < w.heap.size := by rw [Array.getElem?_eq_some_iff] at hb; exact hb.1
  clear hiu hu hb hp hlen hnn
  go_enter Try.func23, Try.ntmps23
  go_wp2_with fail
  go_loopw [2, 7] (fun v i wr => ∃ (k : Nat) (x : Xtra), k ≤ n ∧ i = .int .i64 k ∧ Kp (wr.ownsRow w.heap.size 5 1 v (ls.take k).flatten.length ((ls.take k).flatten.map V8)) ∧ wr = more w x) (fun _ i _ => n - (intOf i).toNat)
  case atStart => exact ⟨0, _, by omega, rfl, kp (owns_nil _ _ _), by rw [← more_self]⟩
  case round =>
    obtain ⟨k, x, hk, rfl, HO, rfl⟩ := hrel
    by_cases hlt : k < n
    · obtain ⟨y, hy⟩ : ∃ y, vs[k]? = some y := ⟨vs[k]'(by rw [← HN.out]; omega), by simp⟩
      obtain ⟨l, hl⟩ : ∃ l, ls[k]? = some l := ⟨ls[k]'(by rw [← HP.out.1, ← HN.out]; omega), by simp⟩
      have HS := kp ((HP.out.2 k y l hy hl).ext (Ext.more w x))
      have hc : w.cell? ⟨b, k, none⟩ = some y := by rw [cell_of_row w b k vs.toArray _ _ HB.out]; simpa using hy
      obtain ⟨ay, cy, hyf⟩ := HS.out.form
      have HT := kp (show (ls.take (k + 1)).flatten = (ls.take k).flatten ++ l by rw [List.take_add_one, hl]; simp)
      have HLE := kp (show (ls.take k).flatten.length + l.length ≤ 1000000 by
        have h1 := flat_take_le ls (k + 1)
        rw [HT.out, List.length_append] at h1
        have h2 := HLEN.out
        omega)
      clear hy hl
      subst hyf
      go_wp2_with (at_builtin; refine wpList_append_SlB rfl _ _ 22 rfl w.heap.size 5 iu Try.underlying22 HIU.out HU.out.1 HU.out.2.1 HU.out.2.2 _ _ rfl HO.out _ l rfl HS.out HLE.out (by simp) ?_; intro v' w1 ho1 hg1)
      obtain ⟨x1, hx1⟩ := (Ext.more w x).grown hg1 (fun q hq => owns_block HO.out q hq)
      go_roundw
      case rel => exact ⟨k + 1, x1, by omega, by go_num, kp (by rw [HT.out]; exact ho1), hx1⟩
      case measure => simp [intOf]; omega
    · obtain rfl : k = n := by omega
      have HE := kp (show (ls.take k).flatten = ls.flatten by rw [List.take_of_length_le (by rw [← HP.out.1, ← HN.out]; exact Nat.le_refl _)])
      go_wp2_with fail
      go_ret
      exact ⟨_, rfl, by rw [← HE.out]; exact HO.out, Ext.more _ _⟩


set_option maxHeartbeats 1600000 in
theorem input_own (s : ByteArray) (hs : s.size ≤ 100000) (vc : Value) (c : List (BitVec 8)) (hc : c.length ≤ 100000) (i : Int) (w : World) (hv : SlB w vc c) :
    Calls Try.prog 12 #[.string s, vc, .int .i64 i] w (RetO (inputF s c i) w) := by
  obtain ⟨ac, cc, rfl⟩ := hv.form
  have HV := kp hv
  have HI := kp (show inputF s c i = [[BitVec.ofInt 8 s.size], strB s, twoF c.length, c, twoF i].flatten from rfl)
  have HW1 := kp (wI_ofInt8 (s.size : Int))
  clear hv
  go_enter Try.func12, Try.ntmps12
  go_wp2_with (first | (refine wpList_strB rfl 9 22 5 _ rfl s rfl Try.underlying9 Try.underlying22 Try.underlying5 ?_; intro b1 cap1 y1 HS1; simp only [Act.put, List.setIfInBounds_toArray, List.set_cons_zero, List.set_cons_succ]) | (go_at_call 24; refine (two_any _ _).mono ?_; rintro e w' ⟨rfl, rfl⟩))
  have hA : (#[Value.int .u8 ((s.size : Int) % 256)] : Array Value) = ([BitVec.ofInt 8 s.size].map V8).toArray := by
    show _ = #[Value.int .u8 (wI (BitVec.ofInt 8 s.size))]
    rw [HW1.out]
  rw [hA]
  rw [hA] at HS1
  refine Calls.mono (djoin_own _ 5 [_, _, _, _, _] [[BitVec.ofInt 8 s.size], strB s, twoF c.length, c, twoF i] _ (hp_at _ _ _ (by simp)) (parts5 ?p1 ?p2 ?p3 ?p4 ?p5) (by simp) (by simp [twoF, strB_len]; omega)) ?post
  case p1 => exact SlB.of_block (l := [BitVec.ofInt 8 s.size]) (hp_alloc (hp_alloc (hp_alloc (hp_more (hp_new _ _)))))
  case p2 => exact HS1.out.ext (((Ext.alloc _ _).trans (Ext.alloc _ _)).trans (Ext.alloc _ _))
  case p3 => exact SlB.of_block (l := twoF c.length) (hp_alloc (hp_alloc (hp_at _ _ _ (by simp))))
  case p4 => exact HV.out.ext (((((Ext.alloc _ _).trans (Ext.more _ _)).trans (Ext.alloc _ _)).trans (Ext.alloc _ _)).trans (Ext.alloc _ _))
  case p5 => exact SlB.of_block (l := twoF i) (hp_alloc (hp_at _ _ _ (by simp)))
  case post =>
    rintro e w' ⟨v, rfl, hsl, hx⟩
    have HSL := kp hsl
    have HX := kp hx
    clear hsl hx
    go_wp2_with fail
    go_ret
    exact ⟨v, rfl, owns_base HSL.out (by simp <;> omega), (((((Ext.alloc _ _).trans (Ext.more _ _)).trans (Ext.alloc _ _)).trans (Ext.alloc _ _)).trans (Ext.alloc _ _)).trans HX.out⟩

set_option maxHeartbeats 800000 in
theorem twin_any (v : Value) (bs : List (BitVec 8)) (hn : bs.length ≤ 100000) (w : World) (hs : SlB w v bs) : Calls Try.prog 13 #[v] w (RetO bs w) := by
  obtain ⟨iu, hiu, hu⟩ := info_iu
  have HIU := kp hiu
  have HU := kp hu
  obtain ⟨ad, cap, rfl⟩ := hs.form
  have HS := kp (hs.ext (Ext.alloc w (.cells #[] 5)))
  have HOE := kp (owns_empty w w.heap.size (Nat.le_refl _))
  have HLE := kp (show ([] : List (BitVec 8)).length + bs.length ≤ 1000000 by simp; omega)
  clear hiu hu hs
  go_enter Try.func13, Try.ntmps13
  go_wp2_with (at_builtin; refine wpList_append_SlB rfl _ _ 22 rfl w.heap.size 5 iu Try.underlying22 HIU.out HU.out.1 HU.out.2.1 HU.out.2.2 _ _ rfl HOE.out _ bs rfl HS.out HLE.out (by simp) ?_; intro v2 w2 ho2 hg2)
  go_ret
  exact ⟨v2, rfl, by simpa using ho2, (Ext.alloc _ _).grown hg2 (fun q hq => owns_block HOE.out q hq)⟩
end Go.Proofs.Ytianjmmmegelkaa
