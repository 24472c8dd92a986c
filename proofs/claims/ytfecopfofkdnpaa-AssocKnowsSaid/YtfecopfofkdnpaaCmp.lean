/- Comparing addresses: both ways answer cmpF. -/
import Derived.Test.YtfecopfofkdnpaaPl30b
import Derived.Lib.Bytealg
import Derived.Laws.Externs
namespace Go.Proofs.Ytfecopfofkdnpaa
open Go.RowKit
def u8of (x : BitVec 8) : UInt8 := (wI x).toNat.toUInt8
theorem u8of_lt : ∀ x y : BitVec 8, u8of x < u8of y ↔ x.toNat < y.toNat := by
  intro x y
  unfold u8of wI
  have hx := x.isLt
  have hy := y.isLt
  rw [UInt8.lt_iff_toNat_lt]
  simp
theorem run_loadBytes {P : Program} (w : World) (b : Nat) : ∀ (l : List (BitVec 8)) (off : Nat) (acc : ByteArray), (∀ (j : Nat) x, l[j]? = some x → w.cell? ⟨b, off + j, none⟩ = some (V8 x)) →
    (Extern.Bytes.loadBytes ⟨b, off, none⟩ l.length acc).run P w = .ok ⟨⟨acc.data.toList ++ l.map u8of⟩⟩ w
  | [], off, acc, _ => by simp [Extern.Bytes.loadBytes]
  | x :: l, off, acc, h => by
    have h0 := h 0 x rfl
    rw [Nat.add_zero] at h0
    have ih := run_loadBytes (P := P) w b l (off + 1) (acc.push (u8of x)) fun j y hj => by
      have := h (j + 1) y (by simpa using hj)
      rwa [show off + (j + 1) = off + 1 + j by omega] at this
    simp only [List.length_cons, Extern.Bytes.loadBytes, Sem.run_bind, run_load, h0, Result.andThen]
    show (Extern.Bytes.loadBytes ⟨b, off + 1, none⟩ l.length (acc.push (u8of x))).run P w = _
    rw [ih]
    simp [ByteArray.push]
theorem cmpBytes_eq : ∀ {l m : List (BitVec 8)}, l.length = m.length → Lib.compareBytes (l.map u8of) (m.map u8of) = cmpF l m
  | [], [], _ => by simp [Lib.compareBytes, cmpF]
  | [], _ :: _, h => by simp at h
  | _ :: _, [], h => by simp at h
  | x :: l, y :: m, h => by
    have hl : l.length = m.length := by simpa using h
    have ih := cmpBytes_eq hl
    simp only [List.map_cons, Lib.compareBytes, u8of_lt]
    have h1 := num_lt_pow l
    have h2 := num_lt_pow m
    rw [hl] at h1
    have m1 : x.toNat < y.toNat → numF (x :: l) < numF (y :: m) := fun c => by
      rw [num_cons, num_cons, hl]
      have : (x.toNat + 1) * 256 ^ m.length ≤ y.toNat * 256 ^ m.length := Nat.mul_le_mul_right _ c
      rw [Nat.add_mul, Nat.one_mul] at this; omega
    have m2 : y.toNat < x.toNat → numF (y :: m) < numF (x :: l) := fun c => by
      rw [num_cons, num_cons, hl]
      have : (y.toNat + 1) * 256 ^ m.length ≤ x.toNat * 256 ^ m.length := Nat.mul_le_mul_right _ c
      rw [Nat.add_mul, Nat.one_mul] at this; omega
    by_cases c1 : x.toNat < y.toNat
    · rw [if_pos c1, cmpF, if_pos (m1 c1)]
    · by_cases c2 : y.toNat < x.toNat
      · have := m2 c2
        rw [if_neg c1, if_pos c2, cmpF, if_neg (by omega), if_pos this]
      · rw [if_neg c1, if_neg c2, ih]
        have e : x.toNat = y.toNat := by omega
        unfold cmpF
        rw [num_cons, num_cons, hl, e]
        simp only [Nat.add_lt_add_iff_left]
theorem run_cmp {P : Program} (w : World) (b1 b2 o1 o2 c1 c2 : Nat) (l m : List (BitVec 8)) (hlm : l.length = m.length) (h1 : ∀ (j : Nat) x, l[j]? = some x → w.cell? ⟨b1, o1 + j, none⟩ = some (V8 x)) (h2 : ∀ (j : Nat) x, m[j]? = some x → w.cell? ⟨b2, o2 + j, none⟩ = some (V8 x)) :
    (Extern.BytealgCompare.compare #[.slice (some ⟨b1, o1, none⟩) l.length c1, .slice (some ⟨b2, o2, none⟩) m.length c2]).run P w = .ok (.int .i64 (cmpF l m)) w := by
  change Sem.run P (do pure (goInt (Extern.BytealgCompare.cmp (← Extern.Bytes.bytesOf (.slice (some ⟨b1, o1, none⟩) l.length c1)) (← Extern.Bytes.bytesOf (.slice (some ⟨b2, o2, none⟩) m.length c2))))) w = _
  simp only [Extern.Bytes.bytesOf, Sem.run_bind, Sem.run_pure, run_loadBytes w b1 l o1 _ h1, run_loadBytes w b2 m o2 _ h2, Result.andThen]
  rw [Lib.cmp_eq]
  simp only [ByteArray.data_empty, List.nil_append]
  rw [cmpBytes_eq hlm]
  rfl
set_option maxRecDepth 100000 in
theorem bcompare_any (l m : List (BitVec 8)) (hl : l.length = 6) (hm : m.length = 6) (b1 b2 : Nat) (w : World) (h1 : Lc w b1 23 (l.map V8)) (h2 : Lc w b2 23 (m.map V8)) :
    Calls Try.prog 86 #[.slice (some ⟨b1, 0, none⟩) 6 6, .slice (some ⟨b2, 0, none⟩) 6 6] w fun e w' => e = .returned (.int .i64 (cmpF l m)) ∧ w' = w := by
  have HR : Kp ((Extern.BytealgCompare.compare #[.slice (some ⟨b1, 0, none⟩) 6 6, .slice (some ⟨b2, 0, none⟩) 6 6]).run Try.prog w = .ok (.int .i64 (cmpF l m)) w) := kp (by
    have := run_cmp (P := Try.prog) w b1 b2 0 0 6 6 l m (by rw [hl, hm]) (fun j x hj => by rw [Nat.zero_add]; exact h1.cell (by simp [hj])) (fun j x hj => by rw [Nat.zero_add]; exact h2.cell (by simp [hj]))
    rw [hl, hm] at this
    exact this)
  clear h1 h2 hl hm
  go_enter Try.func86, Try.ntmps86
  go_wp2_with fail
  rw [run_callFunc_extern Try.func103 (by kernel_rfl) (by kernel_rfl) (by kernel_rfl) (e := Extern.BytealgCompare.compare) (by kernel_rfl), HR.out]
  simp only [Result.andThen]
  rw [Oper.upon_value]
  go_wp2_with fail
  go_ret
  exact ⟨rfl, rfl⟩
theorem compareA_any (l m : List (BitVec 8)) (hl : l.length = 6) (hm : m.length = 6) (w : World) :
    Calls Try.prog 54 #[.agg (l.map V8).toArray, .agg (m.map V8).toArray] w fun e w' => e = .returned (.int .i64 (cmpF l m)) ∧ Ext w w' := by
  have H := kp (Loc.start w)
  have HB := kp (bcompare_any l m hl hm)
  clear hl hm
  go_enter Try.func54, Try.ntmps54
  go_wp2_with (first | ((with_reducible show wpList _ _ _ (Oper.mk (some 2) (Op.box 23 _) _ _ _ _ :: _) _ _); (with_reducible refine L_box H rfl 23 _ rfl (l.map V8) rfl ?_); clear H; intro g2 w2 HGg2 HEg2 H; simp only [Act.put, List.setIfInBounds_toArray, List.set_cons_zero, List.set_cons_succ]) | ((with_reducible show wpList _ _ _ (Oper.mk (some 3) (Op.box 23 _) _ _ _ _ :: _) _ _); (with_reducible refine L_box H rfl 23 _ rfl (m.map V8) rfl ?_); clear H; intro g3 w3 HGg3 HEg3 H; simp only [Act.put, List.setIfInBounds_toArray, List.set_cons_zero, List.set_cons_succ]))
  refine region_free H (tabS [(5, fun zv _ => zv = .slice (some ⟨g2, 0, none⟩) 6 6), (6, fun zv _ => zv = .slice (some ⟨g3, 0, none⟩) 6 6), (7, fun zv _ => zv = .int .i64 (cmpF l m)), (4, fun zv _ => zv = .int .i64 (cmpF l m))]) [] (tabS_out _ _ (by simp only [List.forall_mem_cons]; exact ⟨mono_eqO _ _, mono_eqO _ _, mono_eqO _ _, mono_eqO _ _, by simp⟩)) 4 (by kernel_rfl) (by kernel_rfl) (by kernel_rfl) (by kernel_rfl) [] [] rfl rfl (by decide) (by decide) (by decide) trivial ?_
  simp only [List.take_succ_cons, List.take_zero]
  refine ⟨fun wv5 hov5 hSv5 => ?_, fun v5 => ?_⟩
  · clear hSv5
    clear hov5
    go_wp2_with fail
    exact ⟨rfl, _, rfl, fun d hd => by cases hd; exact rfl, Ext.refl _⟩
  simp only [Act.put, List.setIfInBounds_toArray, List.set_cons_zero, List.set_cons_succ]
  refine ⟨fun wv6 hov6 hSv6 => ?_, fun v6 => ?_⟩
  · clear hSv6
    clear hov6
    go_wp2_with fail
    exact ⟨rfl, _, rfl, fun d hd => by cases hd; exact rfl, Ext.refl _⟩
  simp only [Act.put, List.setIfInBounds_toArray, List.set_cons_zero, List.set_cons_succ]
  refine ⟨fun wv7 hov7 hSv7 => ?_, fun v7 => ?_⟩
  · obtain rfl : v5 = .slice (some ⟨g2, 0, none⟩) 6 6 := hSv7 5 (by decide) (by decide)
    obtain rfl : v6 = .slice (some ⟨g3, 0, none⟩) 6 6 := hSv7 6 (by decide) (by decide)
    clear hSv7
    have H := kp (H.out.keep [0, 1] (St := []) trivial hov7 (by decide) (by kernel_rfl))
    have HOX := kp hov7
    clear hov7
    go_wp2_with fail
    refine (HB.out g2 g3 _ (H.out.at 1 rfl) (H.out.at 0 rfl)).mono ?_
    rintro e wa ⟨rfl, rfl⟩
    go_wp2_with fail
    exact ⟨rfl, _, rfl, fun d hd => by cases hd; exact rfl, Ext.refl _⟩
  simp only [Act.put, List.setIfInBounds_toArray, List.set_cons_zero, List.set_cons_succ]
  refine ⟨fun wv4 hov4 hSv4 => ?_, fun v4 => ?_⟩
  · obtain rfl : v7 = .int .i64 (cmpF l m) := hSv4 7 (by decide) (by decide)
    clear hSv4
    clear hov4
    go_wp2_with fail
    exact ⟨rfl, _, rfl, fun d hd => by cases hd; exact rfl, Ext.refl _⟩
  simp only [Act.put, List.setIfInBounds_toArray, List.set_cons_zero, List.set_cons_succ]
  clear H
  intro w4 HOX H hfin
  obtain rfl : v5 = .slice (some ⟨g2, 0, none⟩) 6 6 := hfin 5 (by decide)
  obtain rfl : v6 = .slice (some ⟨g3, 0, none⟩) 6 6 := hfin 6 (by decide)
  obtain rfl : v7 = .int .i64 (cmpF l m) := hfin 7 (by decide)
  obtain rfl : v4 = .int .i64 (cmpF l m) := hfin 4 (by decide)
  clear hfin
  simp only [List.drop_succ_cons, List.drop_zero]
  simp only [applyS] at H
  have HXN := kp (HOX.out.ext (Ext.refl w3) (fun g hg => by cases hg))
  go_wp2_with fail
  go_ret
  exact ⟨rfl, H.out.1⟩
end Go.Proofs.Ytfecopfofkdnpaa
