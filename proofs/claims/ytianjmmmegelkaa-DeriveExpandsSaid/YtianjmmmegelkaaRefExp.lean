/- The contract of hotspotref23.Expand. -/
import Derived.Test.YtianjmmmegelkaaRefDer
namespace Go.Proofs.Ytianjmmmegelkaa
open Go.RowKit

set_option maxHeartbeats 1600000 in
theorem rexpand_neg (ks : List (BitVec 8)) (s : ByteArray) (ac : Option Addr) (q cc : Nat) (n : Int) (hn : n < 0) (w : World) :
    Calls Try.prog 18 #[.agg (ks.map V8).toArray, .string s, .slice ac q cc, .int .i64 n] w fun e w' => e = .returned (.tuple #[.slice none 0 0, .int .i64 2]) ∧ Ext w w' := by
  go_enter Try.func18, Try.ntmps18
  go_wp2_with fail
  refine bodyPost_ret (v := .tuple #[.slice none 0 0, .int .i64 2]) (by simp [results, Try.results18, go_sem]) rfl ⟨rfl, Ext.alloc _ _⟩
set_option maxHeartbeats 1600000 in
theorem rexpand_many (ks : List (BitVec 8)) (s : ByteArray) (hs : s.size ≤ 9223372036854775807) (ac : Option Addr) (q cc : Nat) (n : Int) (hn : 0 ≤ n) (ho : 32 < s.size ∨ 256 < q ∨ 1024 < n) (w : World) :
    Calls Try.prog 18 #[.agg (ks.map V8).toArray, .string s, .slice ac q cc, .int .i64 n] w fun e w' => e = .returned (.tuple #[.slice none 0 0, .int .i64 4]) ∧ Ext w w' := by
  have hn' : ¬ n < 0 := by omega
  by_cases h1 : 32 < (s.size : Int)
  case pos =>
    go_enter Try.func18, Try.ntmps18
    go_wp2_with fail
    refine bodyPost_ret (v := .tuple #[.slice none 0 0, .int .i64 4]) (by simp [results, Try.results18, go_sem]) rfl ⟨rfl, Ext.alloc _ _⟩
  by_cases h2 : 256 < (q : Int)
  case pos =>
    go_enter Try.func18, Try.ntmps18
    go_wp2_with fail
    refine bodyPost_ret (v := .tuple #[.slice none 0 0, .int .i64 4]) (by simp [results, Try.results18, go_sem]) rfl ⟨rfl, Ext.alloc _ _⟩
  have h3 : 1024 < n := by omega
  go_enter Try.func18, Try.ntmps18
  go_wp2_with fail
  refine bodyPost_ret (v := .tuple #[.slice none 0 0, .int .i64 4]) (by simp [results, Try.results18, go_sem]) rfl ⟨rfl, Ext.alloc _ _⟩

set_option maxHeartbeats 1600000 in
theorem rexpand_ok (ks : List (BitVec 8)) (hk : ks.length = 16) (s : ByteArray) (hs : s.size ≤ 32) (vc : Value) (c : List (BitVec 8)) (hc : c.length ≤ 256) (n : Nat) (hn : n ≤ 1024) (w : World) (hv : SlB w vc c) :
    Calls Try.prog 18 #[.agg (ks.map V8).toArray, .string s, vc, .int .i64 n] w fun e w' => ∃ v, e = .returned (.tuple #[v, .int .i64 0]) ∧ SlB w' v (expandF ks s c n) ∧ Ext w w' := by
  obtain ⟨ac, cc, rfl⟩ := hv.form
  have HV := kp hv
  have HK := kp (sizeK ks hk)
  have HD := kp (fun w (h : SlB w (.slice ac c.length cc) c) => rderived_any ks hk s hs _ c hc n hn w h)
  have hs1 : ¬ 32 < (s.size : Int) := by omega
  have hc1 : ¬ 256 < (c.length : Int) := by omega
  have h3 : ¬ (n : Int) < 0 := by omega
  have h5 : ¬ 1024 < (n : Int) := by omega
  clear hk hv
  go_enter Try.func18, Try.ntmps18
  go_wp2_with ((with_reducible show wpList _ _ _ (Oper.mk _ (Op.load 29 _) _ _ _ _ :: _) _ _); (with_reducible refine wpList_load_row rfl 29 _ rfl (w.heap.size) rfl 29 ((ks.map V8).toArray) (0, 0) _ (hp_new _ _) Try.underlying29 rfl (HK.out) ?_); simp only [Act.put, List.setIfInBounds_toArray, List.set_cons_zero, List.set_cons_succ])
  refine (HD.out _ (HV.out.ext (Ext.alloc _ _))).mono ?_
  rintro e w1 ⟨v, rfl, ho, hx⟩
  have HS := kp (SlB.of_owns ho)
  have HX := kp hx
  clear ho hx
  go_wp2_with fail
  exact bodyPost_ret (v := .tuple #[v, .int .i64 0]) (by simp [results, Try.results18, go_sem]) rfl ⟨v, rfl, HS.out, (Ext.alloc _ _).trans HX.out⟩
end Go.Proofs.Ytianjmmmegelkaa
