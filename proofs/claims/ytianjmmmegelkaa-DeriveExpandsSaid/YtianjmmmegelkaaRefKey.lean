/- The contract of hotspotref23.key: 16 bytes of a slice as a key. -/
import Derived.Test.YtianjmmmegelkaaRefExp
namespace Go.Proofs.Ytianjmmmegelkaa
open Go.RowKit

def keyTo (l : List (BitVec 8)) (k : Nat) : List (BitVec 8) := l.take k ++ List.replicate (16 - k) 0
theorem keyTo_len (l : List (BitVec 8)) (hl : 16 ≤ l.length) (k : Nat) (hk : k ≤ 16) : (keyTo l k).length = 16 := by
  unfold keyTo; rw [List.length_append, List.length_take, List.length_replicate]; omega
theorem keyTo_step (l : List (BitVec 8)) (hl : 16 ≤ l.length) (k : Nat) (hk : k < 16) (y : BitVec 8) (hy : l[k]? = some y) : (keyTo l k).set k y = keyTo l (k + 1) := by
  unfold keyTo
  rw [List.set_append_right _ _ (by rw [List.length_take]; omega), List.length_take, Nat.min_eq_left (by omega), Nat.sub_self, show 16 - k = (16 - (k + 1)) + 1 by omega, List.replicate_succ, List.set_cons_zero, List.take_add_one, hy]
  simp
set_option maxHeartbeats 1600000 in
theorem rkey_any (l : List (BitVec 8)) (hl : 16 ≤ l.length) (hb : l.length ≤ 1000000000) (v : Value) (w : World) (hs : SlB w v l) :
    Calls Try.prog 28 #[v] w fun e w' => e = .returned (.agg ((l.take 16).map V8).toArray) ∧ Ext w w' := by
  obtain ⟨ad, cap, rfl⟩ := hs.form
  have HS0 := kp hs
  obtain ⟨n, hn⟩ : ∃ n, n = l.length := ⟨_, rfl⟩
  rw [← hn] at hl hb ⊢
  have HN := kp hn
  clear hs hn
  go_enter Try.func28, Try.ntmps28
  go_wp2_with fail
  go_loopw [4] (fun i wr => ∃ (k : Nat) (x : Xtra), k ≤ 16 ∧ i = .int .i64 k ∧ wr = more ((w.alloc (.cells z16 29)).alloc (.cells ((keyTo l k).map V8).toArray 29)) x) (fun i _ => 16 - (intOf i).toNat)
  case atStart => exact ⟨0, _, by omega, rfl, by rw [← more_self]; rfl⟩
  case round =>
    obtain ⟨k, x, hk, rfl, rfl⟩ := hrel
    by_cases hlt : k < 16
    · obtain ⟨y, hy⟩ : ∃ y, l[k]? = some y := ⟨l[k]'(by rw [← HN.out]; omega), by simp⟩
      obtain ⟨b, off, rfl, hbb, hcell⟩ := HS0.out.at k y hy
      have hb1 : b < w.heap.size + 1 := by omega
      have hb2 : b < w.heap.size + 1 + 1 := by omega
      have hkn : k < n := by omega
      obtain ⟨z, hz⟩ : ∃ z, (keyTo l k)[k]? = some z := ⟨(keyTo l k)[k]'(by rw [keyTo_len l (by rw [← HN.out]; exact hl) k hk]; omega), by simp⟩
      have HK1 := kp (keyTo_step l (by rw [← HN.out]; exact hl) k hlt y hy)
      clear hy
      go_wp2_with fail
      go_roundw
      case rel => exact ⟨k + 1, _, by omega, by go_num, by rw [← HK1.out, List.map_set]⟩
      case measure => simp [intOf]; omega
    · obtain rfl : k = 16 := by omega
      have HE := kp (show keyTo l 16 = l.take 16 by simp [keyTo])
      have HL := kp (show (l.take 16).length = 16 by rw [List.length_take, ← HN.out]; omega)
      rw [HE.out]
      have HB := kp (sizeK (l.take 16) HL.out)
      have HZ := kp (z16_size (l.take 16) HL.out)
      obtain ⟨m, hm⟩ : ∃ m, l.take 16 = m := ⟨_, rfl⟩
      have HMM := kp hm
      rw [hm] at HB HZ ⊢
      clear hm
      go_wp2_with (first | ((with_reducible show wpList _ _ _ (Oper.mk _ (Op.load 29 _) _ _ _ _ :: _) _ _); (with_reducible refine wpList_load_row rfl 29 _ rfl (w.heap.size + 1) rfl 29 ((m.map V8).toArray) (0, 0) _ (hp_more (hp_at _ _ _ (by simp))) Try.underlying29 rfl (HB.out) ?_); simp only [Act.put, List.setIfInBounds_toArray, List.set_cons_zero, List.set_cons_succ]) | ((with_reducible show wpList _ _ _ (Oper.mk none (Op.store 29 _ _) _ _ _ _ :: _) _ _); with_reducible refine wpList_st_row rfl rfl 29 _ _ rfl (w.heap.size) ((m.map V8).toArray) rfl rfl 29 (_) (hp_more (hp_alloc (hp_new _ _))) (HB.out) (HZ.out) (all_V8 _) (by rewrite [setRow_more _ _ _ _ (by simp <;> omega), setRow_past _ _ _ _ (by simp <;> omega), setRow_at _ _ _ _ _ _ (by simp <;> omega)]; rfl) ?_))
      exact ret_row Try.results28 (w.heap.size) 29 ((m.map V8).toArray) (0, 0) _ rfl (hp_more (hp_alloc (hp_new _ _))) Try.underlying29 rfl (HB.out) rfl ⟨by rw [HMM.out], ((Ext.alloc _ _).trans (Ext.alloc _ _)).trans (Ext.more _ _)⟩
end Go.Proofs.Ytianjmmmegelkaa
