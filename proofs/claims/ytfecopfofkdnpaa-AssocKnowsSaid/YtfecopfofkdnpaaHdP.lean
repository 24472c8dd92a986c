/- header.places: where the addresses of a header lie. -/
import Derived.Test.YtfecopfofkdnpaaHdA
import Derived.ArgAppend
namespace Go.Proofs.Ytfecopfofkdnpaa
open Go.RowKit
def bothF (h : Hd) : Bool := h.kind == 2 && h.toDs && h.fromDs
def placesN (h : Hd) : Nat := if h.kind = 1 ∧ (h.sub = 12 ∨ h.sub = 13) then 1 else if h.kind = 1 then 2 else 3
def ptrs (g : Nat) : List Value := [.pointer (some ⟨g, 10, none⟩), .pointer (some ⟨g, 16, none⟩), .pointer (some ⟨g, 22, none⟩), .pointer (some ⟨g, 28, none⟩)]
def nil4 : List Value := [.pointer none, .pointer none, .pointer none, .pointer none]
def afterV (h : Hd) (g4 : Nat) : Value := if bothF h then .slice (some ⟨g4, 3, none⟩) 1 1 else .slice none 0 0
set_option maxHeartbeats 6400000 in
theorem places_any (h : Hd) (g : Nat) (w0 : World) (hg : Lc w0 g 28 (cellsH h)) :
    Calls Try.prog 65 #[.pointer (some ⟨g, 0, none⟩)] w0 fun e w' => ∃ g4, w0.heap.size ≤ g4 ∧ Lc w' g4 160 (ptrs g) ∧ Ext w0 w' ∧ e = .returned (.tuple #[.slice (some ⟨g4, 0, none⟩) (placesN h) 4, afterV h g4]) := by
  have H := kp (Loc.start w0)
  have HG := kp hg
  have HZ := kp (show (Try.prog.info? 160).map (·.size) = some (ptrs g).toArray.size by kernel_rfl)
  have HO := kp (show (ptrs g).toArray.all (·.oneCell') = true by simp [ptrs, Value.oneCell'])
  clear hg
  go_enter Try.func65, Try.ntmps65
  generalize h2 : (Code.region 2 _ _ : Code) = R2
  go_wp2_with fail
  refine region_free H (tabS [(5, fun zv _ => zv = .pointer (some ⟨g, 0, none⟩)), (6, fun zv _ => zv = .pointer (some ⟨g, 0, none⟩)), (7, fun zv _ => zv = .pointer (some ⟨g, 10, none⟩)), (8, fun zv _ => zv = .pointer (some ⟨g, 0, none⟩)), (9, fun zv _ => zv = .pointer (some ⟨g, 0, none⟩)), (10, fun zv _ => zv = .pointer (some ⟨g, 16, none⟩)), (11, fun zv _ => zv = .pointer (some ⟨g, 0, none⟩)), (12, fun zv _ => zv = .pointer (some ⟨g, 0, none⟩)), (13, fun zv _ => zv = .pointer (some ⟨g, 22, none⟩)), (14, fun zv _ => zv = .pointer (some ⟨g, 0, none⟩)), (15, fun zv _ => zv = .pointer (some ⟨g, 0, none⟩)), (16, fun zv _ => zv = .pointer (some ⟨g, 28, none⟩)), (17, fun zv _ => zv = .agg (ptrs g).toArray), (4, fun zv zw => ∃ g, zv = .pointer (some ⟨g, 0, none⟩) ∧ w0.heap.size ≤ g ∧ Lc zw g 160 nil4)]) [] (tabS_out _ _ (by simp only [List.forall_mem_cons]; exact ⟨mono_eqO _ _, mono_eqO _ _, mono_eqO _ _, mono_eqO _ _, mono_eqO _ _, mono_eqO _ _, mono_eqO _ _, mono_eqO _ _, mono_eqO _ _, mono_eqO _ _, mono_eqO _ _, mono_eqO _ _, mono_eqO _ _, (fun _ _ _ ⟨g, h1, h2, h3⟩ hx => ⟨g, h1, h2, hx.lc h3 (by simp)⟩), by simp⟩)) 14 (by kernel_rfl) (by kernel_rfl) (by kernel_rfl) (by kernel_rfl) [] [] rfl rfl (by decide) (by decide) (by decide) trivial ?_
  simp only [List.take_succ_cons, List.take_zero]
  refine ⟨fun wv5 hov5 hSv5 => ?_, fun v5 => ?_⟩
  · clear hSv5
    clear hov5
    go_wp2_with fail
    exact ⟨rfl, _, rfl, fun d hd => by cases hd; exact rfl, Ext.refl _⟩
  simp only [Act.put, List.setIfInBounds_toArray, List.set_cons_zero, List.set_cons_succ]
  refine ⟨fun wv6 hov6 hSv6 => ?_, fun v6 => ?_⟩
  · obtain rfl : v5 = .pointer (some ⟨g, 0, none⟩) := hSv6 5 (by decide) (by decide)
    clear hSv6
    clear hov6
    go_wp2_with fail
    exact ⟨rfl, _, rfl, fun d hd => by cases hd; exact rfl, Ext.refl _⟩
  simp only [Act.put, List.setIfInBounds_toArray, List.set_cons_zero, List.set_cons_succ]
  refine ⟨fun wv7 hov7 hSv7 => ?_, fun v7 => ?_⟩
  · obtain rfl : v6 = .pointer (some ⟨g, 0, none⟩) := hSv7 6 (by decide) (by decide)
    clear hSv7
    clear hov7
    go_wp2_with fail
    exact ⟨rfl, _, rfl, fun d hd => by cases hd; exact rfl, Ext.refl _⟩
  simp only [Act.put, List.setIfInBounds_toArray, List.set_cons_zero, List.set_cons_succ]
  refine ⟨fun wv8 hov8 hSv8 => ?_, fun v8 => ?_⟩
  · clear hSv8
    clear hov8
    go_wp2_with fail
    exact ⟨rfl, _, rfl, fun d hd => by cases hd; exact rfl, Ext.refl _⟩
  simp only [Act.put, List.setIfInBounds_toArray, List.set_cons_zero, List.set_cons_succ]
  refine ⟨fun wv9 hov9 hSv9 => ?_, fun v9 => ?_⟩
  · obtain rfl : v8 = .pointer (some ⟨g, 0, none⟩) := hSv9 8 (by decide) (by decide)
    clear hSv9
    clear hov9
    go_wp2_with fail
    exact ⟨rfl, _, rfl, fun d hd => by cases hd; exact rfl, Ext.refl _⟩
  simp only [Act.put, List.setIfInBounds_toArray, List.set_cons_zero, List.set_cons_succ]
  refine ⟨fun wv10 hov10 hSv10 => ?_, fun v10 => ?_⟩
  · obtain rfl : v9 = .pointer (some ⟨g, 0, none⟩) := hSv10 9 (by decide) (by decide)
    clear hSv10
    clear hov10
    go_wp2_with fail
    exact ⟨rfl, _, rfl, fun d hd => by cases hd; exact rfl, Ext.refl _⟩
  simp only [Act.put, List.setIfInBounds_toArray, List.set_cons_zero, List.set_cons_succ]
  refine ⟨fun wv11 hov11 hSv11 => ?_, fun v11 => ?_⟩
  · clear hSv11
    clear hov11
    go_wp2_with fail
    exact ⟨rfl, _, rfl, fun d hd => by cases hd; exact rfl, Ext.refl _⟩
  simp only [Act.put, List.setIfInBounds_toArray, List.set_cons_zero, List.set_cons_succ]
  refine ⟨fun wv12 hov12 hSv12 => ?_, fun v12 => ?_⟩
  · obtain rfl : v11 = .pointer (some ⟨g, 0, none⟩) := hSv12 11 (by decide) (by decide)
    clear hSv12
    clear hov12
    go_wp2_with fail
    exact ⟨rfl, _, rfl, fun d hd => by cases hd; exact rfl, Ext.refl _⟩
  simp only [Act.put, List.setIfInBounds_toArray, List.set_cons_zero, List.set_cons_succ]
  refine ⟨fun wv13 hov13 hSv13 => ?_, fun v13 => ?_⟩
  · obtain rfl : v12 = .pointer (some ⟨g, 0, none⟩) := hSv13 12 (by decide) (by decide)
    clear hSv13
    clear hov13
    go_wp2_with fail
    exact ⟨rfl, _, rfl, fun d hd => by cases hd; exact rfl, Ext.refl _⟩
  simp only [Act.put, List.setIfInBounds_toArray, List.set_cons_zero, List.set_cons_succ]
  refine ⟨fun wv14 hov14 hSv14 => ?_, fun v14 => ?_⟩
  · clear hSv14
    clear hov14
    go_wp2_with fail
    exact ⟨rfl, _, rfl, fun d hd => by cases hd; exact rfl, Ext.refl _⟩
  simp only [Act.put, List.setIfInBounds_toArray, List.set_cons_zero, List.set_cons_succ]
  refine ⟨fun wv15 hov15 hSv15 => ?_, fun v15 => ?_⟩
  · obtain rfl : v14 = .pointer (some ⟨g, 0, none⟩) := hSv15 14 (by decide) (by decide)
    clear hSv15
    clear hov15
    go_wp2_with fail
    exact ⟨rfl, _, rfl, fun d hd => by cases hd; exact rfl, Ext.refl _⟩
  simp only [Act.put, List.setIfInBounds_toArray, List.set_cons_zero, List.set_cons_succ]
  refine ⟨fun wv16 hov16 hSv16 => ?_, fun v16 => ?_⟩
  · obtain rfl : v15 = .pointer (some ⟨g, 0, none⟩) := hSv16 15 (by decide) (by decide)
    clear hSv16
    clear hov16
    go_wp2_with fail
    exact ⟨rfl, _, rfl, fun d hd => by cases hd; exact rfl, Ext.refl _⟩
  simp only [Act.put, List.setIfInBounds_toArray, List.set_cons_zero, List.set_cons_succ]
  refine ⟨fun wv17 hov17 hSv17 => ?_, fun v17 => ?_⟩
  · obtain rfl : v7 = .pointer (some ⟨g, 10, none⟩) := hSv17 7 (by decide) (by decide)
    obtain rfl : v10 = .pointer (some ⟨g, 16, none⟩) := hSv17 10 (by decide) (by decide)
    obtain rfl : v13 = .pointer (some ⟨g, 22, none⟩) := hSv17 13 (by decide) (by decide)
    obtain rfl : v16 = .pointer (some ⟨g, 28, none⟩) := hSv17 16 (by decide) (by decide)
    clear hSv17
    clear hov17
    go_wp2_with fail
    exact ⟨rfl, _, rfl, fun d hd => by cases hd; exact rfl, Ext.refl _⟩
  simp only [Act.put, List.setIfInBounds_toArray, List.set_cons_zero, List.set_cons_succ]
  refine ⟨fun wv4 hov4 hSv4 => ?_, fun v4 => ?_⟩
  · clear hSv4
    have H := kp (H.out.keep [] (St := []) trivial hov4 (by decide) (by kernel_rfl))
    have HOX := kp hov4
    clear hov4
    go_wp2_with ((with_reducible show wpList _ _ _ (Oper.mk (some 4) (Op.alloc 160) _ _ _ _ :: _) _ _); (with_reducible refine L_alloc H rfl 160 rfl (nil4) (fun _ _ => by kernel_rfl) ?_); clear H; intro g4 w4 HGg4 HEg4 H; simp only [Act.put, List.setIfInBounds_toArray, List.set_cons_zero, List.set_cons_succ])
    exact ⟨rfl, .pointer (some ⟨g4, 0, none⟩), rfl, fun d hd => by cases hd; exact ⟨g4, rfl, (by rw [HGg4.out]; exact HOX.out.size), H.out.at 0 rfl⟩, HEg4.out⟩
  simp only [Act.put, List.setIfInBounds_toArray, List.set_cons_zero, List.set_cons_succ]
  clear H
  intro w1 HOX H hfin
  obtain rfl : v5 = .pointer (some ⟨g, 0, none⟩) := hfin 5 (by decide)
  obtain rfl : v6 = .pointer (some ⟨g, 0, none⟩) := hfin 6 (by decide)
  obtain rfl : v7 = .pointer (some ⟨g, 10, none⟩) := hfin 7 (by decide)
  obtain rfl : v8 = .pointer (some ⟨g, 0, none⟩) := hfin 8 (by decide)
  obtain rfl : v9 = .pointer (some ⟨g, 0, none⟩) := hfin 9 (by decide)
  obtain rfl : v10 = .pointer (some ⟨g, 16, none⟩) := hfin 10 (by decide)
  obtain rfl : v11 = .pointer (some ⟨g, 0, none⟩) := hfin 11 (by decide)
  obtain rfl : v12 = .pointer (some ⟨g, 0, none⟩) := hfin 12 (by decide)
  obtain rfl : v13 = .pointer (some ⟨g, 22, none⟩) := hfin 13 (by decide)
  obtain rfl : v14 = .pointer (some ⟨g, 0, none⟩) := hfin 14 (by decide)
  obtain rfl : v15 = .pointer (some ⟨g, 0, none⟩) := hfin 15 (by decide)
  obtain rfl : v16 = .pointer (some ⟨g, 28, none⟩) := hfin 16 (by decide)
  obtain rfl : v17 = .agg (ptrs g).toArray := hfin 17 (by decide)
  have F4 := kp (show ∃ g, v4 = .pointer (some ⟨g, 0, none⟩) ∧ w0.heap.size ≤ g ∧ Lc w1 g 160 nil4 from hfin 4 (by decide))
  clear hfin
  simp only [List.drop_succ_cons, List.drop_zero]
  simp only [applyS] at H
  have HXN := kp (HOX.out.ext (Ext.refl w0) (fun g hg => by cases hg))
  obtain ⟨g4, rfl, hge, hl4⟩ := F4.out
  have HA := kp (H.out.add w0.heap.size (fun g hg => by cases hg) (Nat.le_refl _) hge hl4)
  have HGE := kp hge
  have HGw := kp (HG.out.ext HXN.out)
  have hne : g < g4 := Nat.lt_of_lt_of_le HG.out.lt hge
  clear H F4 hl4 hge
  have H := HA
  clear HA
  go_wp2_with (first | ((with_reducible show wpList _ _ _ (Oper.mk none (Op.store 160 _ _) _ _ _ _ :: _) _ _); (first | (refine L_store H rfl rfl 160 _ _ rfl 0 rfl rfl (ptrs g) rfl (HZ.out) (rfl) (HO.out) ?_; clear H; intro w5 HWw5 H; simp only [List.set_cons_zero] at H) | (refine L_store H rfl rfl 160 _ _ rfl 1 rfl rfl (ptrs g) rfl (HZ.out) (rfl) (HO.out) ?_; clear H; intro w5 HWw5 H; simp only [List.set_cons_succ, List.set_cons_zero] at H) | (refine L_store H rfl rfl 160 _ _ rfl 2 rfl rfl (ptrs g) rfl (HZ.out) (rfl) (HO.out) ?_; clear H; intro w5 HWw5 H; simp only [List.set_cons_succ, List.set_cons_zero] at H) | (refine L_store H rfl rfl 160 _ _ rfl 3 rfl rfl (ptrs g) rfl (HZ.out) (rfl) (HO.out) ?_; clear H; intro w5 HWw5 H; simp only [List.set_cons_succ, List.set_cons_zero] at H) | (refine L_store H rfl rfl 160 _ _ rfl 4 rfl rfl (ptrs g) rfl (HZ.out) (rfl) (HO.out) ?_; clear H; intro w5 HWw5 H; simp only [List.set_cons_succ, List.set_cons_zero] at H) | (refine L_store H rfl rfl 160 _ _ rfl 5 rfl rfl (ptrs g) rfl (HZ.out) (rfl) (HO.out) ?_; clear H; intro w5 HWw5 H; simp only [List.set_cons_succ, List.set_cons_zero] at H))))
  have HGx := kp (show Lc w5 g 28 (cellsH h) by obtain ⟨ds, rfl⟩ := HWw5.out; exact HGw.out.other (Nat.ne_of_lt hne) ds)
  have hc0 := HGx.out.cell (show (cellsH h)[0]? = _ from rfl)
  have hc1 := HGx.out.cell (show (cellsH h)[1]? = _ from rfl)
  have hc2 := HGx.out.cell (show (cellsH h)[2]? = _ from rfl)
  have hc3 := HGx.out.cell (show (cellsH h)[3]? = _ from rfl)
  clear hne
  subst h2
  go_wp2_with fail
  all_goals try (go_ret2; exact ⟨g4, HGE.out, H.out.at 0 rfl, H.out.1, by simp [placesN, afterV, bothF, *] <;> simp_all⟩)
  clear hc0 hc1 hc2 hc3
  refine region_free H (tabS [(64, fun zv _ => zv = .slice (some ⟨g4, 0, none⟩) 3 4), (65, fun zv _ => zv = .slice (some ⟨g4, 3, none⟩) 1 1), (2, fun zv _ => zv = .slice (some ⟨g4, 0, none⟩) 3 4), (3, fun zv _ => zv = .slice (some ⟨g4, 3, none⟩) 1 1)]) [] (tabS_out _ _ (by simp only [List.forall_mem_cons]; exact ⟨mono_eqO _ _, mono_eqO _ _, mono_eqO _ _, mono_eqO _ _, by simp⟩)) 4 (by kernel_rfl) (by kernel_rfl) (by kernel_rfl) (by kernel_rfl) [] [] rfl rfl (by decide) (by decide) (by decide) trivial ?_
  simp only [List.take_succ_cons, List.take_zero]
  refine ⟨fun wv64 hov64 hSv64 => ?_, fun v64 => ?_⟩
  · clear hSv64
    clear hov64
    go_wp2_with fail
    exact ⟨rfl, _, rfl, fun d hd => by cases hd; exact rfl, Ext.refl _⟩
  simp only [Act.put, List.setIfInBounds_toArray, List.set_cons_zero, List.set_cons_succ]
  refine ⟨fun wv65 hov65 hSv65 => ?_, fun v65 => ?_⟩
  · clear hSv65
    clear hov65
    go_wp2_with fail
    exact ⟨rfl, _, rfl, fun d hd => by cases hd; exact rfl, Ext.refl _⟩
  simp only [Act.put, List.setIfInBounds_toArray, List.set_cons_zero, List.set_cons_succ]
  refine ⟨fun wv2 hov2 hSv2 => ?_, fun v2 => ?_⟩
  · obtain rfl : v64 = .slice (some ⟨g4, 0, none⟩) 3 4 := hSv2 64 (by decide) (by decide)
    clear hSv2
    clear hov2
    go_wp2_with fail
    exact ⟨rfl, _, rfl, fun d hd => by cases hd; exact rfl, Ext.refl _⟩
  simp only [Act.put, List.setIfInBounds_toArray, List.set_cons_zero, List.set_cons_succ]
  refine ⟨fun wv3 hov3 hSv3 => ?_, fun v3 => ?_⟩
  · obtain rfl : v65 = .slice (some ⟨g4, 3, none⟩) 1 1 := hSv3 65 (by decide) (by decide)
    clear hSv3
    clear hov3
    go_wp2_with fail
    exact ⟨rfl, _, rfl, fun d hd => by cases hd; exact rfl, Ext.refl _⟩
  simp only [Act.put, List.setIfInBounds_toArray, List.set_cons_zero, List.set_cons_succ]
  clear H
  intro w6 HOX H hfin
  obtain rfl : v64 = .slice (some ⟨g4, 0, none⟩) 3 4 := hfin 64 (by decide)
  obtain rfl : v65 = .slice (some ⟨g4, 3, none⟩) 1 1 := hfin 65 (by decide)
  obtain rfl : v2 = .slice (some ⟨g4, 0, none⟩) 3 4 := hfin 2 (by decide)
  obtain rfl : v3 = .slice (some ⟨g4, 3, none⟩) 1 1 := hfin 3 (by decide)
  clear hfin
  simp only [List.drop_succ_cons, List.drop_zero]
  simp only [applyS] at H
  have HXN := kp (HOX.out.ext (Ext.refl w5) (fun g hg => by cases hg))
  go_wp2_with fail
  go_ret2
  exact ⟨g4, HGE.out, H.out.at 0 rfl, H.out.1, by simp [placesN, afterV, bothF, *] <;> simp_all⟩
end Go.Proofs.Ytfecopfofkdnpaa
