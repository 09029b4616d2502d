import Derived.Test.YtbdoccbogndjkaaQPlMDevRead
import Derived.Test.YtbdoccbogndjkaaQPlPFx1
namespace Go.Proofs.Ytbdoccbogndjkaa
set_option linter.unusedSimpArgs false
open Go.RowKit Go.Proofs.YtbdoccbogndjkaaW.PrintWords Go.Proofs.YtbdoccbogndjkaaW.PrintLast
theorem fresh_foot {w0 W : World} {g : Nat} {vs vc : Value} {d : Dv} (h : Dev w0 W g vs vc d) (o : Obj) : ¬ Foot (W.alloc o) g W.heap.size := fun hk => by
  have := (h.foot_lt ((foot_same (Below.heap_alloc _ _ _ h.lt) _).1 hk)).1
  omega
def aw1 : Dv := (dvWrite (dvNew 2) 0 ⟨#[97]⟩).2
def aw2 : Dv := (dvWrite aw1 1 ⟨#[98]⟩).2
def aw3 : Dv := dvCrash aw2 [1]
theorem aw_ok : DvOk aw2 := by
  intro x hx
  have : aw2.cache = [⟨0, pad ⟨#[97]⟩⟩, ⟨1, pad ⟨#[98]⟩⟩] := rfl
  rw [this] at hx
  simp only [List.mem_cons, List.not_mem_nil, or_false] at hx
  rcases hx with rfl | rfl <;> exact ⟨by decide, by decide⟩
theorem fill_e : PF.armoireref03_Fill.f 70 ⟨#[]⟩ = some Z64 := by decide +kernel
theorem fill_b : PF.armoireref03_Fill.f 70 ⟨#[98]⟩ = some (pad ⟨#[98]⟩) := by decide +kernel
theorem aw_r0 : dvRead aw3 0 = (Z64, 0) := by kernel_rfl
theorem aw_r1 : dvRead aw3 1 = (pad ⟨#[98]⟩, 0) := by kernel_rfl
theorem one_kept {w0 W W_ : World} {g : Nat} {vs vc : Value} {d : Dv} (h : Dev w0 W g vs vc d) (n : Int) (t : TypeId) (hk : Kept (W.alloc (.cells #[.int .i64 n] t)) W_ (Foot (W.alloc (.cells #[.int .i64 n] t)) g)) :
    Kd.C (Kd.int .i64) W_ (some ⟨W.heap.size, 0, none⟩) [n].length [n] := by
  have hb : W_.heap[W.heap.size]? = some (.cells #[.int .i64 n] t (0, 0)) := (hk.2 W.heap.size (by simp) (fresh_foot h _)).trans (World.alloc_heap_new W _)
  refine Kd.C_of_reads (enc := Value.int .i64) (d := (0 : Int)) ⟨rfl, by simp, fun _ => ⟨_, rfl, fun j hj => ?_⟩⟩
  obtain rfl : j = 0 := by simpa using hj
  exact (kcl hb 0).trans rfl
set_option maxHeartbeats 2000000 in
set_option maxRecDepth 100000 in
theorem armoirelaw03_awake.calls (w : World) : Calls Try.prog 8 #[] w fun e w' => e = .returned (.bool true) ∧ Below w.heap.size w w' := by
  have HN := device_New_good 2 w w (Below.refl _ _) (by omega) (by omega)
  rw [show ((2 : Nat) : Int) = 2 from rfl] at HN
  have HN := Aside0.mk HN
  have H1 := fun W hI hB => device_Write.calls w.heap.size (dvNew 2) 0 ⟨#[97]⟩ w W hI hB (by decide) (by decide) (by decide)
  rw [show (dvWrite (dvNew 2) 0 ⟨#[97]⟩).1 = 0 from rfl, ← aw1] at H1
  have H2 := fun W hI hB => device_Write.calls w.heap.size aw1 1 ⟨#[98]⟩ w W hI hB (by decide) (by decide) (by decide)
  rw [show (dvWrite aw1 1 ⟨#[98]⟩).1 = 0 from rfl, ← aw2] at H2
  go_enter Try.func8, Try.ntmps8
  go_wp2_with fail
  refine HN.out.mono ?_
  rintro e w1 ⟨rfl, hI, hB, -⟩
  have HI1 := Aside0.mk hI
  have HB1 := Aside0.mk hB
  clear hI hB
  go_wp2_with fail
  refine (H1 _ HI1.out HB1.out).mono ?_
  rintro e w2 ⟨rfl, hI, hB, -⟩
  have HI2 := Aside0.mk hI
  have HB2 := Aside0.mk hB
  clear hI hB HI1 HB1
  go_wp2_with fail
  refine (H2 _ HI2.out HB2.out).mono ?_
  rintro e w3 ⟨rfl, hI, hB, -⟩
  obtain ⟨vs3, vc3, hD⟩ := hI
  have HI3 := Aside0.mk hD
  have HB3 := Aside0.mk hB
  clear hD hB HI2 HB2
  go_wp2_with fail
  refine (device_Crash.calls w.heap.size aw2 (some ⟨w3.heap.size, 0, none⟩) 1 [1] w (w3.alloc (.cells #[.int .i64 1] 3)) ⟨_, _, HI3.out.alloc _⟩ (bal HB3.out _) aw_ok (fun _ hk => one_kept HI3.out 1 _ hk)).mono ?_
  rintro e w4 ⟨rfl, hI, hB, -⟩
  rw [← aw3] at hI
  have HI4 := Aside0.mk hI
  have HB4 := Aside0.mk hB
  clear hI hB HI3 HB3
  go_wp2_with fail
  have HR := device_Read.calls w.heap.size aw3 0 w w4 HI4.out
  rw [aw_r0] at HR
  refine HR.mono ?_
  rintro e w5 ⟨rfl, hB⟩
  have HI5 := Aside0.mk (HI4.out.below hB)
  have HB5 := Aside0.mk (bsp HB4.out hB)
  clear hB HI4 HB4 HR
  go_wp2_with fail
  have HR := device_Read.calls w.heap.size aw3 1 w w5 HI5.out
  rw [aw_r1] at HR
  refine HR.mono ?_
  rintro e w6 ⟨rfl, hB⟩
  obtain ⟨vs6, vc6, hD⟩ := HI5.out.below hB
  have HI6 := Aside0.mk hD
  have HB6 := Aside0.mk (bsp HB5.out hB)
  clear hB HI5 HB5 HR
  go_wp2_with fail
  refine (PF.armoireref03_Fill.calls 70 ⟨#[]⟩ Z64 w6 fill_e).mono ?_
  rintro e w7 ⟨rfl, hD⟩
  have HI7 := Aside0.mk (HI6.out.below hD.below)
  have HB7 := Aside0.mk (bsp HB6.out hD.below)
  clear hD HI6 HB6
  have hz : (Z64.toList == Z64.toList) = true := by simp
  have hp : ((pad ⟨#[98]⟩).toList == (pad ⟨#[98]⟩).toList) = true := by simp
  go_wp2_with fail
  refine (PF.armoireref03_Fill.calls 70 ⟨#[98]⟩ (pad ⟨#[98]⟩) w7 fill_b).mono ?_
  rintro e w8 ⟨rfl, hD⟩
  have HI8 := Aside0.mk (HI7.out.below hD.below)
  have HB8 := Aside0.mk (bsp HB7.out hD.below)
  clear hD HI7 HB7
  go_wp2_with fail
  refine (device_Loose.calls w.heap.size vs6 vc6 aw3 w w8 HI8.out).mono ?_
  rintro e w9 ⟨rfl, rfl⟩
  have hl0 : Value.int .i64 (aw3.cache.length : Int) = .int .i64 0 := rfl
  rw [hl0]
  go_wp2_with fail
  refine (device_Calls.calls w.heap.size vs6 vc6 aw3 w _ HI8.out).mono ?_
  rintro e w9 ⟨rfl, rfl⟩
  have hc0 : Value.int .i64 aw3.calls = .int .i64 2 := by kernel_rfl
  rw [hc0]
  go_wp2
  go_ret
  exact ⟨rfl, HB8.out⟩
end Go.Proofs.Ytbdoccbogndjkaa

