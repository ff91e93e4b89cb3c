/- A disk that nobody made does nothing (DiskNil). -/
import Derived.Test.YtnjejffbcgchlaaDiskNo
import Derived.Test.YtnjejffbcgchlaaDiskDown
import Derived.Deep.RegionHeld3
set_option linter.unusedSimpArgs false
set_option linter.unusedVariables false
namespace Go.Proofs.Ytnjejffbcgchlaa
open Go.RowKit Go.ChangeShapes Go.WideShapes Go.Deep Go.Joins
namespace Di
section
variable {H : Type} {enc : TypeId × Value → H} {w : World} {spare : Nat → Bool} {held : Bool}
theorem open_av {W : World} {r : Reach} {b : Nat} {v : Value} {d : DataW H} {ps : List MemPlace} (hval : Value.okWide Try.prog W r b 33 v) (h : DataW.Trod enc Try.prog w 0 spare held 33 v d ps) : ∃ x : Av, avOk w x ∧ v = .agg (avC x).toArray := by
  obtain ⟨cs, rfl, _⟩ := okWide_struct Try.underlying33 hval
  obtain ⟨fuel, hf⟩ := h
  obtain ⟨x, hok, hx⟩ := read_av _ _ _ hf
  have hx : cs.toList = avC x := hx
  exact ⟨x, hok, by rw [← hx]⟩
end
set_option maxRecDepth 100000 in
set_option maxHeartbeats 8000000 in
theorem diskNil_is (x : Av) {W : World} (hok : avOk W x) (_ : World) : Calls Try.prog 6 #[.agg (avC x).toArray] W fun e w' => e = .returned (.bool true) ∧ Below W.heap.size W w' := by
  obtain ⟨⟨kd, sc, nn, bs, ks⟩, bv, kv⟩ := x
  have hb := hok.2.2.1.slice
  have hk := hok.2.2.2.slice
  dsimp only at hb hk
  obtain ⟨Ab, cb, hbv, _, _⟩ := hb
  obtain ⟨Ak, ck, hkv, _, _⟩ := hk
  subst hbv hkv
  have HX := Lib.hid hok
  obtain ⟨U0, hU0⟩ : ∃ U0 : World, U0 = (W.alloc (.cells #[.int .u8 (kd : Nat), .int .i64 sc, .int .i64 nn, .slice Ab bs.length cb, .slice Ak ks.length ck] 33)).alloc (.cells #[.int .u8 (kd : Nat), .int .i64 sc, .int .i64 nn, .slice Ab bs.length cb, .slice Ak ks.length ck] 33) := ⟨_, rfl⟩
  have hB0 : Below W.heap.size W U0 := by rw [hU0]; exact be2 _ _ _
  have GR := great_is [⟨⟨kd, sc, nn, bs, ks⟩, .slice Ab bs.length cb, .slice Ak ks.length ck⟩] (.slice (some ⟨W.heap.size + 1, 0, none⟩) 1 1) (W.heap.size + 2) U0 (by
    rw [hU0]
    exact Row.blk (wh1_2 W _ 33 [.int .u8 (kd : Nat), .int .i64 sc, .int .i64 nn, .slice Ab bs.length cb, .slice Ak ks.length ck]) rfl (by omega) (by simp [maxLen])) (fun y hy => by rw [List.mem_singleton.1 hy]; exact hok.below hB0)
  have hA0 : Hid (Sep W [.box W.heap.size 33 [.int .u8 (kd : Nat), .int .i64 sc, .int .i64 nn, .slice Ab bs.length cb, .slice Ak ks.length ck]] U0) := by rw [hU0]; exact ((Sep.start W (Below.refl _ _)).alloc 33 [.int .u8 (kd : Nat), .int .i64 sc, .int .i64 nn, .slice Ab bs.length cb, .slice Ak ks.length ck]).fresh _
  clear hok
  obtain ⟨ab, hab⟩ : ∃ ab, ab = W.heap.size := ⟨_, rfl⟩
  have c0 : (W.alloc (.cells #[.int .u8 (kd : Nat), .int .i64 sc, .int .i64 nn, .slice Ab bs.length cb, .slice Ak ks.length ck] 33)).cell? ⟨W.heap.size, 0, none⟩ = some (.int .u8 (kd : Nat)) := (Whole.new W 33 [.int .u8 (kd : Nat), .int .i64 sc, .int .i64 nn, .slice Ab bs.length cb, .slice Ak ks.length ck]).cell 0
  have c1 : (W.alloc (.cells #[.int .u8 (kd : Nat), .int .i64 sc, .int .i64 nn, .slice Ab bs.length cb, .slice Ak ks.length ck] 33)).cell? ⟨W.heap.size, 1, none⟩ = some (.int .i64 sc) := (Whole.new W 33 [.int .u8 (kd : Nat), .int .i64 sc, .int .i64 nn, .slice Ab bs.length cb, .slice Ak ks.length ck]).cell 1
  have c2 : (W.alloc (.cells #[.int .u8 (kd : Nat), .int .i64 sc, .int .i64 nn, .slice Ab bs.length cb, .slice Ak ks.length ck] 33)).cell? ⟨W.heap.size, 2, none⟩ = some (.int .i64 nn) := (Whole.new W 33 [.int .u8 (kd : Nat), .int .i64 sc, .int .i64 nn, .slice Ab bs.length cb, .slice Ak ks.length ck]).cell 2
  have c3 : (W.alloc (.cells #[.int .u8 (kd : Nat), .int .i64 sc, .int .i64 nn, .slice Ab bs.length cb, .slice Ak ks.length ck] 33)).cell? ⟨W.heap.size, 3, none⟩ = some (.slice Ab bs.length cb) := (Whole.new W 33 [.int .u8 (kd : Nat), .int .i64 sc, .int .i64 nn, .slice Ab bs.length cb, .slice Ak ks.length ck]).cell 3
  have c4 : (W.alloc (.cells #[.int .u8 (kd : Nat), .int .i64 sc, .int .i64 nn, .slice Ab bs.length cb, .slice Ak ks.length ck] 33)).cell? ⟨W.heap.size, 4, none⟩ = some (.slice Ak ks.length ck) := (Whole.new W 33 [.int .u8 (kd : Nat), .int .i64 sc, .int .i64 nn, .slice Ab bs.length cb, .slice Ak ks.length ck]).cell 4
  cases hg : greatB [⟨⟨kd, sc, nn, bs, ks⟩, .slice Ab bs.length cb, .slice Ak ks.length ck⟩]
  · rw [hg] at GR
    have GR := Lib.hid GR
    have hg2 := (great_not hg).2 _ (List.mem_singleton.2 rfl)
    have hbl : Hid (bs.length ≤ 1000000000) := by show bs.length ≤ _; dsimp only at hg2; omega
    clear hg hg2
    show Calls Try.prog 6 #[.agg #[.int .u8 (kd : Nat), .int .i64 sc, .int .i64 nn, .slice Ab bs.length cb, .slice Ak ks.length ck]] W _
    go_enter Try.func6, Try.ntmps6
    go_wp2_with fail
    rw [← hU0]
    clear c0 c1 c2 c3 c4 hU0
    refine GR.out.mono ?_
    rintro e u9 ⟨rfl, rfl⟩
    go_wp2_with fail
    obtain ⟨db, hdb⟩ : ∃ db, db = U0.heap.size := ⟨_, rfl⟩
    obtain ⟨lb, hlb⟩ : ∃ lb, lb = db + 1 := ⟨_, rfl⟩
    have HU : Hid (Sep W [.box ab 33 [.int .u8 (kd : Nat), .int .i64 sc, .int .i64 nn, .slice Ab bs.length cb, .slice Ak ks.length ck], .box db 54 [.slice none 0 0, .slice none 0 0, .bool false, .bool false, .int .i64 0], .box lb 25 [.pointer none, .pointer (some ⟨db, 0, none⟩)]] ((U0.alloc (.cells #[.slice none 0 0, .slice none 0 0, .bool false, .bool false, .int .i64 0] 54)).alloc (.cells #[.pointer none, .pointer (some ⟨U0.heap.size, 0, none⟩)] 25))) := by
      have h1 := (hA0.out.alloc 54 [.slice none 0 0, .slice none 0 0, .bool false, .bool false, .int .i64 0]).alloc 25 [.pointer none, .pointer (some ⟨U0.heap.size, 0, none⟩)]
      simp only [sz1] at h1
      rw [← hdb, ← hlb, ← hab] at h1
      rw [← hdb]
      exact h1.perm (((List.Perm.swap _ _ _).trans (List.Perm.cons _ (List.Perm.swap _ _ _))).trans (List.Perm.swap _ _ _))
    rw [← hdb, ← hab]
    rw [← hdb] at HU
    rw [← hlb]
    clear hdb hlb hab hB0 hA0 GR
    go_loopw [5] (fun i wr => ∃ k : Nat, k ≤ 2 ∧ i = .int .i64 k ∧ Sep W [.box ab 33 [.int .u8 (kd : Nat), .int .i64 sc, .int .i64 nn, .slice Ab bs.length cb, .slice Ak ks.length ck], .box db 54 [.slice none 0 0, .slice none 0 0, .bool false, .bool false, .int .i64 0], .box lb 25 [.pointer none, .pointer (some ⟨db, 0, none⟩)]] wr) (fun i _ => 2 - (intOf i).toNat)
    case atStart => exact ⟨0, by omega, rfl, HU.out⟩
    case round =>
      obtain ⟨k, hk, rfl, hs⟩ := hrel
      have HS0 := Lib.hid hs
      clear hs HU
      by_cases hlt : k < 2
      · have hk0 : (0 : Int) ≤ (k : Int) := by omega
        have hk1 : (k : Int) < 2 := by omega
        obtain ⟨v, hv⟩ : ∃ v : Value, ([.pointer none, .pointer (some ⟨db, 0, none⟩)] : List Value)[k]? = some v := ⟨_, List.getElem?_eq_getElem (by simpa using hlt)⟩
        have NO : Hid (∀ u : World, Hid (Sep W [.box ab 33 [.int .u8 (kd : Nat), .int .i64 sc, .int .i64 nn, .slice Ab bs.length cb, .slice Ak ks.length ck], .box db 54 [.slice none 0 0, .slice none 0 0, .bool false, .bool false, .int .i64 0], .box lb 25 [.pointer none, .pointer (some ⟨db, 0, none⟩)]] u) → No u v) := fun u hs => by
          have hd : Whole u db 54 [.slice none 0 0, .slice none 0 0, .bool false, .bool false, .int .i64 0] := hs.out.holds (.box db 54 [.slice none 0 0, .slice none 0 0, .bool false, .bool false, .int .i64 0]) (by simp)
          rcases (by omega : k = 0 ∨ k = 1) with rfl | rfl
          · injection hv with hv; exact .inl hv.symm
          · injection hv with hv; exact .inr ⟨db, hv.symm, hd.cell 0, hd.lt⟩
        have SOF : Hid (∀ u : World, Hid (Sep W [.box ab 33 [.int .u8 (kd : Nat), .int .i64 sc, .int .i64 nn, .slice Ab bs.length cb, .slice Ak ks.length ck], .box db 54 [.slice none 0 0, .slice none 0 0, .bool false, .bool false, .int .i64 0], .box lb 25 [.pointer none, .pointer (some ⟨db, 0, none⟩)]] u) → (fun u : World => (u.cell? ⟨lb, k, none⟩ = some v ∧ u.cell? ⟨ab, 0, none⟩ = some (.int .u8 (kd : Nat)) ∧ u.cell? ⟨ab, 1, none⟩ = some (.int .i64 sc) ∧ u.cell? ⟨ab, 2, none⟩ = some (.int .i64 nn) ∧ u.cell? ⟨ab, 3, none⟩ = some (.slice Ab bs.length cb) ∧ u.cell? ⟨ab, 4, none⟩ = some (.slice Ak ks.length ck)) ∧ Hid (Sep W [.box ab 33 [.int .u8 (kd : Nat), .int .i64 sc, .int .i64 nn, .slice Ab bs.length cb, .slice Ak ks.length ck], .box db 54 [.slice none 0 0, .slice none 0 0, .bool false, .bool false, .int .i64 0], .box lb 25 [.pointer none, .pointer (some ⟨db, 0, none⟩)]] u)) u) := fun u hs => by
          have ha : Whole u ab 33 [.int .u8 (kd : Nat), .int .i64 sc, .int .i64 nn, .slice Ab bs.length cb, .slice Ak ks.length ck] := hs.out.holds (.box ab 33 [.int .u8 (kd : Nat), .int .i64 sc, .int .i64 nn, .slice Ab bs.length cb, .slice Ak ks.length ck]) (by simp)
          have hl : Whole u lb 25 [.pointer none, .pointer (some ⟨db, 0, none⟩)] := hs.out.holds (.box lb 25 [.pointer none, .pointer (some ⟨db, 0, none⟩)]) (by simp)
          exact ⟨⟨(hl.cell k).trans hv, ha.cell 0, ha.cell 1, ha.cell 2, ha.cell 3, ha.cell 4⟩, hs⟩
        clear hv
        go_wp2_with fail
        have HSD0 := Lib.hid HS0.out.drew
        refine wp_region_held_drew (S := (fun u : World => (u.cell? ⟨lb, k, none⟩ = some v ∧ u.cell? ⟨ab, 0, none⟩ = some (.int .u8 (kd : Nat)) ∧ u.cell? ⟨ab, 1, none⟩ = some (.int .i64 sc) ∧ u.cell? ⟨ab, 2, none⟩ = some (.int .i64 nn) ∧ u.cell? ⟨ab, 3, none⟩ = some (.slice Ab bs.length cb) ∧ u.cell? ⟨ab, 4, none⟩ = some (.slice Ak ks.length ck)) ∧ Hid (Sep W [.box ab 33 [.int .u8 (kd : Nat), .int .i64 sc, .int .i64 nn, .slice Ab bs.length cb, .slice Ak ks.length ck], .box db 54 [.slice none 0 0, .slice none 0 0, .bool false, .bool false, .int .i64 0], .box lb 25 [.pointer none, .pointer (some ⟨db, 0, none⟩)]] u))) (by kernel_rfl) (SOF.out _ HSD0) (fun HS => ?_)
        refine handTake 0 (some 27) ?_ rfl rfl (by kernel_rfl) (by kernel_rfl) (by kernel_rfl) (fun _ _ _ h => h) (by rfl) ?_ HS ?_
        rotate_left
        · (intro u hu; (try dsimp only at hu); go_simp; try with_reducible rfl)
        simp only [Act.put, List.setIfInBounds_toArray, List.set_cons_zero, List.set_cons_succ]
        refine handTake 1 (some 28) ?_ rfl rfl (by kernel_rfl) (by kernel_rfl) (by kernel_rfl) (fun _ _ _ h => h) (by rfl) ?_ HS ?_
        rotate_left
        · (intro u hu; (try dsimp only at hu); go_simp; try with_reducible rfl)
        simp only [Act.put, List.setIfInBounds_toArray, List.set_cons_zero, List.set_cons_succ]
        refine handTake 2 (some 29) ?_ rfl rfl (by kernel_rfl) (by kernel_rfl) (by kernel_rfl) (fun _ _ _ h => h) (by rfl) ?_ HS ?_
        rotate_left
        · (intro u hu; (try dsimp only at hu); go_simp; try with_reducible rfl)
        simp only [Act.put, List.setIfInBounds_toArray, List.set_cons_zero, List.set_cons_succ]
        refine handTake 3 (some 30) ?_ rfl rfl (by kernel_rfl) (by kernel_rfl) (by kernel_rfl) (fun _ _ _ h => h) (by rfl) ?_ HS ?_
        rotate_left
        · (intro u hu; (try dsimp only at hu); go_simp; try with_reducible rfl)
        simp only [Act.put, List.setIfInBounds_toArray, List.set_cons_zero, List.set_cons_succ]
        refine handTake 4 (some 31) ?_ rfl rfl (by kernel_rfl) (by kernel_rfl) (by kernel_rfl) (fun _ _ _ h => h) (by rfl) ?_ HS ?_
        rotate_left
        · (intro u hu; (try dsimp only at hu); go_simp; try with_reducible rfl)
        simp only [Act.put, List.setIfInBounds_toArray, List.set_cons_zero, List.set_cons_succ]
        refine handTake 5 (some 32) ?_ rfl rfl (by kernel_rfl) (by kernel_rfl) (by kernel_rfl) (fun _ _ _ h => h) (by rfl) ?_ HS ?_
        rotate_left
        · (intro u hu; (try dsimp only at hu); go_simp; try with_reducible rfl)
        simp only [Act.put, List.setIfInBounds_toArray, List.set_cons_zero, List.set_cons_succ]
        refine wpAnyH_ready (rs := [6]) (by kernel_rfl) (by simp) ?_
        refine AllReadyH.cons rfl (fun K hK => ?_) AllReadyH.nil
        go_simp
        clear HS
        refine (read_no (NO.out _ HSD0) sc).mono ?_
        rintro e uu1 ⟨rfl, hb⟩
        have HT1 := Lib.hid (HSD0.out.call hb)
        clear hb
        go_wp2_with fail
        refine hK.out _ _ (SOF.out _ HT1) (fun HS => ?_)
        clear hK
        try simp only [Act.put, List.setIfInBounds_toArray, List.set_cons_zero, List.set_cons_succ]
        refine handTake 7 (some 26) ?_ rfl rfl (by kernel_rfl) (by kernel_rfl) (by kernel_rfl) (fun _ _ _ h => h) (by rfl) ?_ HS ?_
        rotate_left
        · (intro u hu; (try dsimp only at hu); go_simp; try with_reducible rfl)
        simp only [Act.put, List.setIfInBounds_toArray, List.set_cons_zero, List.set_cons_succ]
        refine handTake 8 (some 34) ?_ rfl rfl (by kernel_rfl) (by kernel_rfl) (by kernel_rfl) (fun _ _ _ h => h) (by rfl) ?_ HS ?_
        rotate_left
        · (intro u hu; (try dsimp only at hu); go_simp; try with_reducible rfl)
        simp only [Act.put, List.setIfInBounds_toArray, List.set_cons_zero, List.set_cons_succ]
        refine handTake 9 (some 35) ?_ rfl rfl (by kernel_rfl) (by kernel_rfl) (by kernel_rfl) (fun _ _ _ h => h) (by rfl) ?_ HS ?_
        rotate_left
        · (intro u hu; (try dsimp only at hu); go_simp; try with_reducible rfl)
        simp only [Act.put, List.setIfInBounds_toArray, List.set_cons_zero, List.set_cons_succ]
        refine handTake 10 (some 6) ?_ rfl rfl (by kernel_rfl) (by kernel_rfl) (by kernel_rfl) (fun _ _ _ h => h) (by rfl) ?_ HS ?_
        rotate_left
        · (intro u hu; (try dsimp only at hu); go_simp; try with_reducible rfl)
        simp only [Act.put, List.setIfInBounds_toArray, List.set_cons_zero, List.set_cons_succ]
        refine handTake 11 (some 7) ?_ rfl rfl (by kernel_rfl) (by kernel_rfl) (by kernel_rfl) (fun _ _ _ h => h) (by rfl) ?_ HS ?_
        rotate_left
        · (intro u hu; (try dsimp only at hu); go_simp; try with_reducible rfl)
        simp only [Act.put, List.setIfInBounds_toArray, List.set_cons_zero, List.set_cons_succ]
        refine wpAnyH_done (by kernel_rfl) ?_ _
        clear HS
        have HS2 := HT1
        go_wp2_with fail
        have HSD2 := Lib.hid HS2.out.drew
        refine wp_region_held_drew (S := (fun u : World => (u.cell? ⟨lb, k, none⟩ = some v ∧ u.cell? ⟨ab, 0, none⟩ = some (.int .u8 (kd : Nat)) ∧ u.cell? ⟨ab, 1, none⟩ = some (.int .i64 sc) ∧ u.cell? ⟨ab, 2, none⟩ = some (.int .i64 nn) ∧ u.cell? ⟨ab, 3, none⟩ = some (.slice Ab bs.length cb) ∧ u.cell? ⟨ab, 4, none⟩ = some (.slice Ak ks.length ck)) ∧ Hid (Sep W [.box ab 33 [.int .u8 (kd : Nat), .int .i64 sc, .int .i64 nn, .slice Ab bs.length cb, .slice Ak ks.length ck], .box db 54 [.slice none 0 0, .slice none 0 0, .bool false, .bool false, .int .i64 0], .box lb 25 [.pointer none, .pointer (some ⟨db, 0, none⟩)]] u))) (by kernel_rfl) (SOF.out _ HSD2) (fun HS => ?_)
        refine handTake 0 (some 37) ?_ rfl rfl (by kernel_rfl) (by kernel_rfl) (by kernel_rfl) (fun _ _ _ h => h) (by rfl) ?_ HS ?_
        rotate_left
        · (intro u hu; (try dsimp only at hu); go_simp; try with_reducible rfl)
        simp only [Act.put, List.setIfInBounds_toArray, List.set_cons_zero, List.set_cons_succ]
        refine handTake 1 (some 38) ?_ rfl rfl (by kernel_rfl) (by kernel_rfl) (by kernel_rfl) (fun _ _ _ h => h) (by rfl) ?_ HS ?_
        rotate_left
        · (intro u hu; (try dsimp only at hu); go_simp; try with_reducible rfl)
        simp only [Act.put, List.setIfInBounds_toArray, List.set_cons_zero, List.set_cons_succ]
        refine handTake 2 (some 39) ?_ rfl rfl (by kernel_rfl) (by kernel_rfl) (by kernel_rfl) (fun _ _ _ h => h) (by rfl) ?_ HS ?_
        rotate_left
        · (intro u hu; (try dsimp only at hu); go_simp; try with_reducible rfl)
        simp only [Act.put, List.setIfInBounds_toArray, List.set_cons_zero, List.set_cons_succ]
        refine handTake 3 (some 40) ?_ rfl rfl (by kernel_rfl) (by kernel_rfl) (by kernel_rfl) (fun _ _ _ h => h) (by rfl) ?_ HS ?_
        rotate_left
        · (intro u hu; (try dsimp only at hu); go_simp; try with_reducible rfl)
        simp only [Act.put, List.setIfInBounds_toArray, List.set_cons_zero, List.set_cons_succ]
        refine handTake 4 (some 41) ?_ rfl rfl (by kernel_rfl) (by kernel_rfl) (by kernel_rfl) (fun _ _ _ h => h) (by rfl) ?_ HS ?_
        rotate_left
        · (intro u hu; (try dsimp only at hu); go_simp; try with_reducible rfl)
        simp only [Act.put, List.setIfInBounds_toArray, List.set_cons_zero, List.set_cons_succ]
        refine handTake 5 (some 42) ?_ rfl rfl (by kernel_rfl) (by kernel_rfl) (by kernel_rfl) (fun _ _ _ h => h) (by rfl) ?_ HS ?_
        rotate_left
        · (intro u hu; (try dsimp only at hu); go_simp; try with_reducible rfl)
        simp only [Act.put, List.setIfInBounds_toArray, List.set_cons_zero, List.set_cons_succ]
        refine wpAnyH_ready (rs := [6]) (by kernel_rfl) (by simp) ?_
        refine AllReadyH.cons rfl (fun K hK => ?_) AllReadyH.nil
        go_simp
        clear HS
        refine (rest_no (NO.out _ HSD2) sc).mono ?_
        rintro e uu3 ⟨rfl, hb⟩
        have HT3 := Lib.hid (HSD2.out.call hb)
        clear hb
        go_wp2_with fail
        refine hK.out _ _ (SOF.out _ HT3) (fun HS => ?_)
        clear hK
        try simp only [Act.put, List.setIfInBounds_toArray, List.set_cons_zero, List.set_cons_succ]
        refine handTake 7 (some 36) ?_ rfl rfl (by kernel_rfl) (by kernel_rfl) (by kernel_rfl) (fun _ _ _ h => h) (by rfl) ?_ HS ?_
        rotate_left
        · (intro u hu; (try dsimp only at hu); go_simp; try with_reducible rfl)
        simp only [Act.put, List.setIfInBounds_toArray, List.set_cons_zero, List.set_cons_succ]
        refine handTake 8 (some 44) ?_ rfl rfl (by kernel_rfl) (by kernel_rfl) (by kernel_rfl) (fun _ _ _ h => h) (by rfl) ?_ HS ?_
        rotate_left
        · (intro u hu; (try dsimp only at hu); go_simp; try with_reducible rfl)
        simp only [Act.put, List.setIfInBounds_toArray, List.set_cons_zero, List.set_cons_succ]
        refine handTake 9 (some 45) ?_ rfl rfl (by kernel_rfl) (by kernel_rfl) (by kernel_rfl) (fun _ _ _ h => h) (by rfl) ?_ HS ?_
        rotate_left
        · (intro u hu; (try dsimp only at hu); go_simp; try with_reducible rfl)
        simp only [Act.put, List.setIfInBounds_toArray, List.set_cons_zero, List.set_cons_succ]
        refine handTake 10 (some 46) ?_ rfl rfl (by kernel_rfl) (by kernel_rfl) (by kernel_rfl) (fun _ _ _ h => h) (by rfl) ?_ HS ?_
        rotate_left
        · (intro u hu; (try dsimp only at hu); go_simp; try with_reducible rfl)
        simp only [Act.put, List.setIfInBounds_toArray, List.set_cons_zero, List.set_cons_succ]
        refine handTake 11 (some 8) ?_ rfl rfl (by kernel_rfl) (by kernel_rfl) (by kernel_rfl) (fun _ _ _ h => h) (by rfl) ?_ HS ?_
        rotate_left
        · (intro u hu; (try dsimp only at hu); go_simp; try with_reducible rfl)
        simp only [Act.put, List.setIfInBounds_toArray, List.set_cons_zero, List.set_cons_succ]
        refine handTake 12 (some 9) ?_ rfl rfl (by kernel_rfl) (by kernel_rfl) (by kernel_rfl) (fun _ _ _ h => h) (by rfl) ?_ HS ?_
        rotate_left
        · (intro u hu; (try dsimp only at hu); go_simp; try with_reducible rfl)
        simp only [Act.put, List.setIfInBounds_toArray, List.set_cons_zero, List.set_cons_succ]
        refine handTake 13 (some 10) ?_ rfl rfl (by kernel_rfl) (by kernel_rfl) (by kernel_rfl) (fun _ _ _ h => h) (by rfl) ?_ HS ?_
        rotate_left
        · (intro u hu; (try dsimp only at hu); go_simp; try with_reducible rfl)
        simp only [Act.put, List.setIfInBounds_toArray, List.set_cons_zero, List.set_cons_succ]
        refine wpAnyH_done (by kernel_rfl) ?_ _
        clear HS
        have HS4 := HT3
        go_wp2_with fail
        have HSD4 := Lib.hid HS4.out.drew
        refine wp_region_held_drew (S := (fun u : World => (u.cell? ⟨lb, k, none⟩ = some v ∧ u.cell? ⟨ab, 0, none⟩ = some (.int .u8 (kd : Nat)) ∧ u.cell? ⟨ab, 1, none⟩ = some (.int .i64 sc) ∧ u.cell? ⟨ab, 2, none⟩ = some (.int .i64 nn) ∧ u.cell? ⟨ab, 3, none⟩ = some (.slice Ab bs.length cb) ∧ u.cell? ⟨ab, 4, none⟩ = some (.slice Ak ks.length ck)) ∧ Hid (Sep W [.box ab 33 [.int .u8 (kd : Nat), .int .i64 sc, .int .i64 nn, .slice Ab bs.length cb, .slice Ak ks.length ck], .box db 54 [.slice none 0 0, .slice none 0 0, .bool false, .bool false, .int .i64 0], .box lb 25 [.pointer none, .pointer (some ⟨db, 0, none⟩)]] u))) (by kernel_rfl) (SOF.out _ HSD4) (fun HS => ?_)
        refine handTake 0 (some 48) ?_ rfl rfl (by kernel_rfl) (by kernel_rfl) (by kernel_rfl) (fun _ _ _ h => h) (by rfl) ?_ HS ?_
        rotate_left
        · (intro u hu; (try dsimp only at hu); go_simp; try with_reducible rfl)
        simp only [Act.put, List.setIfInBounds_toArray, List.set_cons_zero, List.set_cons_succ]
        refine handTake 1 (some 49) ?_ rfl rfl (by kernel_rfl) (by kernel_rfl) (by kernel_rfl) (fun _ _ _ h => h) (by rfl) ?_ HS ?_
        rotate_left
        · (intro u hu; (try dsimp only at hu); go_simp; try with_reducible rfl)
        simp only [Act.put, List.setIfInBounds_toArray, List.set_cons_zero, List.set_cons_succ]
        refine handTake 2 (some 50) ?_ rfl rfl (by kernel_rfl) (by kernel_rfl) (by kernel_rfl) (fun _ _ _ h => h) (by rfl) ?_ HS ?_
        rotate_left
        · (intro u hu; (try dsimp only at hu); go_simp; try with_reducible rfl)
        simp only [Act.put, List.setIfInBounds_toArray, List.set_cons_zero, List.set_cons_succ]
        refine handTake 3 (some 51) ?_ rfl rfl (by kernel_rfl) (by kernel_rfl) (by kernel_rfl) (fun _ _ _ h => h) (by rfl) ?_ HS ?_
        rotate_left
        · (intro u hu; (try dsimp only at hu); go_simp; try with_reducible rfl)
        simp only [Act.put, List.setIfInBounds_toArray, List.set_cons_zero, List.set_cons_succ]
        refine handTake 4 (some 52) ?_ rfl rfl (by kernel_rfl) (by kernel_rfl) (by kernel_rfl) (fun _ _ _ h => h) (by rfl) ?_ HS ?_
        rotate_left
        · (intro u hu; (try dsimp only at hu); go_simp; try with_reducible rfl)
        simp only [Act.put, List.setIfInBounds_toArray, List.set_cons_zero, List.set_cons_succ]
        refine handTake 5 (some 53) ?_ rfl rfl (by kernel_rfl) (by kernel_rfl) (by kernel_rfl) (fun _ _ _ h => h) (by rfl) ?_ HS ?_
        rotate_left
        · (intro u hu; (try dsimp only at hu); go_simp; try with_reducible rfl)
        simp only [Act.put, List.setIfInBounds_toArray, List.set_cons_zero, List.set_cons_succ]
        refine wpAnyH_ready (rs := [6]) (by kernel_rfl) (by simp) ?_
        refine AllReadyH.cons rfl (fun K hK => ?_) AllReadyH.nil
        go_simp
        clear HS
        refine (meant_no (NO.out _ HSD4) sc).mono ?_
        rintro e uu5 ⟨rfl, hb⟩
        have HT5 := Lib.hid (HSD4.out.call hb)
        clear hb
        go_wp2_with fail
        refine hK.out _ _ (SOF.out _ HT5) (fun HS => ?_)
        clear hK
        try simp only [Act.put, List.setIfInBounds_toArray, List.set_cons_zero, List.set_cons_succ]
        refine handTake 7 (some 47) ?_ rfl rfl (by kernel_rfl) (by kernel_rfl) (by kernel_rfl) (fun _ _ _ h => h) (by rfl) ?_ HS ?_
        rotate_left
        · (intro u hu; (try dsimp only at hu); go_simp; try with_reducible rfl)
        simp only [Act.put, List.setIfInBounds_toArray, List.set_cons_zero, List.set_cons_succ]
        refine handTake 8 (some 55) ?_ rfl rfl (by kernel_rfl) (by kernel_rfl) (by kernel_rfl) (fun _ _ _ h => h) (by rfl) ?_ HS ?_
        rotate_left
        · (intro u hu; (try dsimp only at hu); go_simp; try with_reducible rfl)
        simp only [Act.put, List.setIfInBounds_toArray, List.set_cons_zero, List.set_cons_succ]
        refine handTake 9 (some 56) ?_ rfl rfl (by kernel_rfl) (by kernel_rfl) (by kernel_rfl) (fun _ _ _ h => h) (by rfl) ?_ HS ?_
        rotate_left
        · (intro u hu; (try dsimp only at hu); go_simp; try with_reducible rfl)
        simp only [Act.put, List.setIfInBounds_toArray, List.set_cons_zero, List.set_cons_succ]
        refine handTake 10 (some 11) ?_ rfl rfl (by kernel_rfl) (by kernel_rfl) (by kernel_rfl) (fun _ _ _ h => h) (by rfl) ?_ HS ?_
        rotate_left
        · (intro u hu; (try dsimp only at hu); go_simp; try with_reducible rfl)
        simp only [Act.put, List.setIfInBounds_toArray, List.set_cons_zero, List.set_cons_succ]
        refine handTake 11 (some 12) ?_ rfl rfl (by kernel_rfl) (by kernel_rfl) (by kernel_rfl) (fun _ _ _ h => h) (by rfl) ?_ HS ?_
        rotate_left
        · (intro u hu; (try dsimp only at hu); go_simp; try with_reducible rfl)
        simp only [Act.put, List.setIfInBounds_toArray, List.set_cons_zero, List.set_cons_succ]
        refine wpAnyH_done (by kernel_rfl) ?_ _
        clear HS
        have HS6 := HT5
        go_wp2_with fail
        have HSD6 := Lib.hid HS6.out.drew
        refine wp_region_held_drew (S := (fun u : World => (u.cell? ⟨lb, k, none⟩ = some v ∧ u.cell? ⟨ab, 0, none⟩ = some (.int .u8 (kd : Nat)) ∧ u.cell? ⟨ab, 1, none⟩ = some (.int .i64 sc) ∧ u.cell? ⟨ab, 2, none⟩ = some (.int .i64 nn) ∧ u.cell? ⟨ab, 3, none⟩ = some (.slice Ab bs.length cb) ∧ u.cell? ⟨ab, 4, none⟩ = some (.slice Ak ks.length ck)) ∧ Hid (Sep W [.box ab 33 [.int .u8 (kd : Nat), .int .i64 sc, .int .i64 nn, .slice Ab bs.length cb, .slice Ak ks.length ck], .box db 54 [.slice none 0 0, .slice none 0 0, .bool false, .bool false, .int .i64 0], .box lb 25 [.pointer none, .pointer (some ⟨db, 0, none⟩)]] u))) (by kernel_rfl) (SOF.out _ HSD6) (fun HS => ?_)
        refine handTake 0 (some 57) ?_ rfl rfl (by kernel_rfl) (by kernel_rfl) (by kernel_rfl) (fun _ _ _ h => h) (by rfl) ?_ HS ?_
        rotate_left
        · (intro u hu; (try dsimp only at hu); go_simp; try with_reducible rfl)
        simp only [Act.put, List.setIfInBounds_toArray, List.set_cons_zero, List.set_cons_succ]
        refine handTake 1 (some 58) ?_ rfl rfl (by kernel_rfl) (by kernel_rfl) (by kernel_rfl) (fun _ _ _ h => h) (by rfl) ?_ HS ?_
        rotate_left
        · (intro u hu; (try dsimp only at hu); go_simp; try with_reducible rfl)
        simp only [Act.put, List.setIfInBounds_toArray, List.set_cons_zero, List.set_cons_succ]
        refine handTake 2 (some 59) ?_ rfl rfl (by kernel_rfl) (by kernel_rfl) (by kernel_rfl) (fun _ _ _ h => h) (by rfl) ?_ HS ?_
        rotate_left
        · (intro u hu; (try dsimp only at hu); go_simp; try with_reducible rfl)
        simp only [Act.put, List.setIfInBounds_toArray, List.set_cons_zero, List.set_cons_succ]
        refine handTake 3 (some 60) ?_ rfl rfl (by kernel_rfl) (by kernel_rfl) (by kernel_rfl) (fun _ _ _ h => h) (by rfl) ?_ HS ?_
        rotate_left
        · (intro u hu; (try dsimp only at hu); go_simp; try with_reducible rfl)
        simp only [Act.put, List.setIfInBounds_toArray, List.set_cons_zero, List.set_cons_succ]
        refine handTake 4 (some 61) ?_ rfl rfl (by kernel_rfl) (by kernel_rfl) (by kernel_rfl) (fun _ _ _ h => h) (by rfl) ?_ HS ?_
        rotate_left
        · (intro u hu; (try dsimp only at hu); go_simp; try with_reducible rfl)
        simp only [Act.put, List.setIfInBounds_toArray, List.set_cons_zero, List.set_cons_succ]
        refine wpAnyH_ready (rs := [5]) (by kernel_rfl) (by simp) ?_
        refine AllReadyH.cons rfl (fun K hK => ?_) AllReadyH.nil
        go_simp
        clear HS
        refine (do_no ⟨kd, sc, nn, bs, ks⟩ HX.out.1 (NO.out _ HSD6) ((HX.out.2.2.1.below HSD6.out.below).more HSD6.out.size) ((HX.out.2.2.2.below HSD6.out.below).more HSD6.out.size) hbl.out).mono ?_
        rintro e uu7 ⟨rfl, hb⟩
        have HT7 := Lib.hid (HSD6.out.call hb)
        clear hb
        go_wp2_with fail
        refine hK.out _ _ (SOF.out _ HT7) (fun HS => ?_)
        clear hK
        try simp only [Act.put, List.setIfInBounds_toArray, List.set_cons_zero, List.set_cons_succ]
        refine handTake 6 (some 63) ?_ rfl rfl (by kernel_rfl) (by kernel_rfl) (by kernel_rfl) (fun _ _ _ h => h) (by rfl) ?_ HS ?_
        rotate_left
        · (intro u hu; (try dsimp only at hu); go_simp; try with_reducible rfl)
        simp only [Act.put, List.setIfInBounds_toArray, List.set_cons_zero, List.set_cons_succ]
        refine handTake 7 (some 64) ?_ rfl rfl (by kernel_rfl) (by kernel_rfl) (by kernel_rfl) (fun _ _ _ h => h) (by rfl) ?_ HS ?_
        rotate_left
        · (intro u hu; (try dsimp only at hu); go_simp; try with_reducible rfl)
        simp only [Act.put, List.setIfInBounds_toArray, List.set_cons_zero, List.set_cons_succ]
        refine handTake 8 (some 65) ?_ rfl rfl (by kernel_rfl) (by kernel_rfl) (by kernel_rfl) (fun _ _ _ h => h) (by rfl) ?_ HS ?_
        rotate_left
        · (intro u hu; (try dsimp only at hu); go_simp; try with_reducible rfl)
        simp only [Act.put, List.setIfInBounds_toArray, List.set_cons_zero, List.set_cons_succ]
        refine handTake 9 (some 66) ?_ rfl rfl (by kernel_rfl) (by kernel_rfl) (by kernel_rfl) (fun _ _ _ h => h) (by rfl) ?_ HS ?_
        rotate_left
        · (intro u hu; (try dsimp only at hu); go_simp; try with_reducible rfl)
        simp only [Act.put, List.setIfInBounds_toArray, List.set_cons_zero, List.set_cons_succ]
        refine handTake 10 (some 67) ?_ rfl rfl (by kernel_rfl) (by kernel_rfl) (by kernel_rfl) (fun _ _ _ h => h) (by rfl) ?_ HS ?_
        rotate_left
        · (intro u hu; (try dsimp only at hu); go_simp; try with_reducible rfl)
        simp only [Act.put, List.setIfInBounds_toArray, List.set_cons_zero, List.set_cons_succ]
        refine handTake 11 (some 68) ?_ rfl rfl (by kernel_rfl) (by kernel_rfl) (by kernel_rfl) (fun _ _ _ h => h) (by rfl) ?_ HS ?_
        rotate_left
        · (intro u hu; (try dsimp only at hu); go_simp; try with_reducible rfl)
        simp only [Act.put, List.setIfInBounds_toArray, List.set_cons_zero, List.set_cons_succ]
        refine handTake 12 (some 69) ?_ rfl rfl (by kernel_rfl) (by kernel_rfl) (by kernel_rfl) (fun _ _ _ h => h) (by rfl) ?_ HS ?_
        rotate_left
        · (intro u hu; (try dsimp only at hu); go_simp; try with_reducible rfl)
        simp only [Act.put, List.setIfInBounds_toArray, List.set_cons_zero, List.set_cons_succ]
        refine handTake 13 (some 70) ?_ rfl rfl (by kernel_rfl) (by kernel_rfl) (by kernel_rfl) (fun _ _ _ h => h) (by rfl) ?_ HS ?_
        rotate_left
        · (intro u hu; (try dsimp only at hu); go_simp; try with_reducible rfl)
        simp only [Act.put, List.setIfInBounds_toArray, List.set_cons_zero, List.set_cons_succ]
        refine handTake 14 (some 71) ?_ rfl rfl (by kernel_rfl) (by kernel_rfl) (by kernel_rfl) (fun _ _ _ h => h) (by rfl) ?_ HS ?_
        rotate_left
        · (intro u hu; (try dsimp only at hu); go_simp; try with_reducible rfl)
        simp only [Act.put, List.setIfInBounds_toArray, List.set_cons_zero, List.set_cons_succ]
        refine handTake 15 (some 72) ?_ rfl rfl (by kernel_rfl) (by kernel_rfl) (by kernel_rfl) (fun _ _ _ h => h) (by rfl) ?_ HS ?_
        rotate_left
        · (intro u hu; (try dsimp only at hu); go_simp; try with_reducible rfl)
        simp only [Act.put, List.setIfInBounds_toArray, List.set_cons_zero, List.set_cons_succ]
        refine handTake 16 (some 73) ?_ rfl rfl (by kernel_rfl) (by kernel_rfl) (by kernel_rfl) (fun _ _ _ h => h) (by rfl) ?_ HS ?_
        rotate_left
        · (intro u hu; (try dsimp only at hu); go_simp; try with_reducible rfl)
        simp only [Act.put, List.setIfInBounds_toArray, List.set_cons_zero, List.set_cons_succ]
        refine handTake 17 (some 74) ?_ rfl rfl (by kernel_rfl) (by kernel_rfl) (by kernel_rfl) (fun _ _ _ h => h) (by rfl) ?_ HS ?_
        rotate_left
        · (intro u hu; (try dsimp only at hu); go_simp; try with_reducible rfl)
        simp only [Act.put, List.setIfInBounds_toArray, List.set_cons_zero, List.set_cons_succ]
        refine handTake 18 (some 75) ?_ rfl rfl (by kernel_rfl) (by kernel_rfl) (by kernel_rfl) (fun _ _ _ h => h) (by rfl) ?_ HS ?_
        rotate_left
        · (intro u hu; (try dsimp only at hu); go_simp; try with_reducible rfl)
        simp only [Act.put, List.setIfInBounds_toArray, List.set_cons_zero, List.set_cons_succ]
        refine handTake 19 (some 76) ?_ rfl rfl (by kernel_rfl) (by kernel_rfl) (by kernel_rfl) (fun _ _ _ h => h) (by rfl) ?_ HS ?_
        rotate_left
        · (intro u hu; (try dsimp only at hu); go_simp; try with_reducible rfl)
        simp only [Act.put, List.setIfInBounds_toArray, List.set_cons_zero, List.set_cons_succ]
        refine handTake 20 (some 77) ?_ rfl rfl (by kernel_rfl) (by kernel_rfl) (by kernel_rfl) (fun _ _ _ h => h) (by rfl) ?_ HS ?_
        rotate_left
        · (intro u hu; (try dsimp only at hu); go_simp; try with_reducible rfl)
        simp only [Act.put, List.setIfInBounds_toArray, List.set_cons_zero, List.set_cons_succ]
        refine handTake 21 (some 78) ?_ rfl rfl (by kernel_rfl) (by kernel_rfl) (by kernel_rfl) (fun _ _ _ h => h) (by rfl) ?_ HS ?_
        rotate_left
        · (intro u hu; (try dsimp only at hu); go_simp; try with_reducible rfl)
        simp only [Act.put, List.setIfInBounds_toArray, List.set_cons_zero, List.set_cons_succ]
        refine handTake 22 (some 79) ?_ rfl rfl (by kernel_rfl) (by kernel_rfl) (by kernel_rfl) (fun _ _ _ h => h) (by rfl) ?_ HS ?_
        rotate_left
        · (intro u hu; (try dsimp only at hu); go_simp; try with_reducible rfl)
        simp only [Act.put, List.setIfInBounds_toArray, List.set_cons_zero, List.set_cons_succ]
        refine handTake 23 (some 80) ?_ rfl rfl (by kernel_rfl) (by kernel_rfl) (by kernel_rfl) (fun _ _ _ h => h) (by rfl) ?_ HS ?_
        rotate_left
        · (intro u hu; (try dsimp only at hu); go_simp; try with_reducible rfl)
        simp only [Act.put, List.setIfInBounds_toArray, List.set_cons_zero, List.set_cons_succ]
        refine handTake 24 (some 81) ?_ rfl rfl (by kernel_rfl) (by kernel_rfl) (by kernel_rfl) (fun _ _ _ h => h) (by rfl) ?_ HS ?_
        rotate_left
        · (intro u hu; (try dsimp only at hu); go_simp; try with_reducible rfl)
        simp only [Act.put, List.setIfInBounds_toArray, List.set_cons_zero, List.set_cons_succ]
        refine handTake 25 (some 82) ?_ rfl rfl (by kernel_rfl) (by kernel_rfl) (by kernel_rfl) (fun _ _ _ h => h) (by rfl) ?_ HS ?_
        rotate_left
        · (intro u hu; (try dsimp only at hu); go_simp; try with_reducible rfl)
        simp only [Act.put, List.setIfInBounds_toArray, List.set_cons_zero, List.set_cons_succ]
        refine handTake 26 (some 83) ?_ rfl rfl (by kernel_rfl) (by kernel_rfl) (by kernel_rfl) (fun _ _ _ h => h) (by rfl) ?_ HS ?_
        rotate_left
        · (intro u hu; (try dsimp only at hu); go_simp; try with_reducible rfl)
        simp only [Act.put, List.setIfInBounds_toArray, List.set_cons_zero, List.set_cons_succ]
        refine handTake 27 (some 84) ?_ rfl rfl (by kernel_rfl) (by kernel_rfl) (by kernel_rfl) (fun _ _ _ h => h) (by rfl) ?_ HS ?_
        rotate_left
        · (intro u hu; (try dsimp only at hu); go_simp; try with_reducible rfl)
        simp only [Act.put, List.setIfInBounds_toArray, List.set_cons_zero, List.set_cons_succ]
        refine handTake 28 (some 85) ?_ rfl rfl (by kernel_rfl) (by kernel_rfl) (by kernel_rfl) (fun _ _ _ h => h) (by rfl) ?_ HS ?_
        rotate_left
        · (intro u hu; (try dsimp only at hu); go_simp; try with_reducible rfl)
        simp only [Act.put, List.setIfInBounds_toArray, List.set_cons_zero, List.set_cons_succ]
        refine handTake 29 (some 86) ?_ rfl rfl (by kernel_rfl) (by kernel_rfl) (by kernel_rfl) (fun _ _ _ h => h) (by rfl) ?_ HS ?_
        rotate_left
        · (intro u hu; (try dsimp only at hu); go_simp; try with_reducible rfl)
        simp only [Act.put, List.setIfInBounds_toArray, List.set_cons_zero, List.set_cons_succ]
        refine handTake 30 (some 87) ?_ rfl rfl (by kernel_rfl) (by kernel_rfl) (by kernel_rfl) (fun _ _ _ h => h) (by rfl) ?_ HS ?_
        rotate_left
        · (intro u hu; (try dsimp only at hu); go_simp; try with_reducible rfl)
        simp only [Act.put, List.setIfInBounds_toArray, List.set_cons_zero, List.set_cons_succ]
        refine handTake 31 (some 88) ?_ rfl rfl (by kernel_rfl) (by kernel_rfl) (by kernel_rfl) (fun _ _ _ h => h) (by rfl) ?_ HS ?_
        rotate_left
        · (intro u hu; (try dsimp only at hu); go_simp; try with_reducible rfl)
        simp only [Act.put, List.setIfInBounds_toArray, List.set_cons_zero, List.set_cons_succ]
        refine handTake 32 (some 89) ?_ rfl rfl (by kernel_rfl) (by kernel_rfl) (by kernel_rfl) (fun _ _ _ h => h) (by rfl) ?_ HS ?_
        rotate_left
        · (intro u hu; (try dsimp only at hu); go_simp; try with_reducible rfl)
        simp only [Act.put, List.setIfInBounds_toArray, List.set_cons_zero, List.set_cons_succ]
        refine handTake 33 (some 90) ?_ rfl rfl (by kernel_rfl) (by kernel_rfl) (by kernel_rfl) (fun _ _ _ h => h) (by rfl) ?_ HS ?_
        rotate_left
        · (intro u hu; (try dsimp only at hu); go_simp; try with_reducible rfl)
        simp only [Act.put, List.setIfInBounds_toArray, List.set_cons_zero, List.set_cons_succ]
        refine handTake 34 (some 91) ?_ rfl rfl (by kernel_rfl) (by kernel_rfl) (by kernel_rfl) (fun _ _ _ h => h) (by rfl) ?_ HS ?_
        rotate_left
        · (intro u hu; (try dsimp only at hu); go_simp; try with_reducible rfl)
        simp only [Act.put, List.setIfInBounds_toArray, List.set_cons_zero, List.set_cons_succ]
        refine handTake 35 (some 92) ?_ rfl rfl (by kernel_rfl) (by kernel_rfl) (by kernel_rfl) (fun _ _ _ h => h) (by rfl) ?_ HS ?_
        rotate_left
        · (intro u hu; (try dsimp only at hu); go_simp; try with_reducible rfl)
        simp only [Act.put, List.setIfInBounds_toArray, List.set_cons_zero, List.set_cons_succ]
        refine handTake 36 (some 93) ?_ rfl rfl (by kernel_rfl) (by kernel_rfl) (by kernel_rfl) (fun _ _ _ h => h) (by rfl) ?_ HS ?_
        rotate_left
        · (intro u hu; (try dsimp only at hu); go_simp; try with_reducible rfl)
        simp only [Act.put, List.setIfInBounds_toArray, List.set_cons_zero, List.set_cons_succ]
        refine handTake 37 (some 94) ?_ rfl rfl (by kernel_rfl) (by kernel_rfl) (by kernel_rfl) (fun _ _ _ h => h) (by rfl) ?_ HS ?_
        rotate_left
        · (intro u hu; (try dsimp only at hu); go_simp; try with_reducible rfl)
        simp only [Act.put, List.setIfInBounds_toArray, List.set_cons_zero, List.set_cons_succ]
        refine wpAnyH_ready (rs := [38]) (by kernel_rfl) (by simp) ?_
        refine AllReadyH.cons rfl (fun K hK => ?_) AllReadyH.nil
        go_simp
        clear HS
        refine (size_no (NO.out _ HT7)).mono ?_
        rintro e uu8 ⟨rfl, rfl⟩
        go_wp2_with fail
        refine hK.out _ _ (SOF.out _ HT7) (fun HS => ?_)
        clear hK
        try simp only [Act.put, List.setIfInBounds_toArray, List.set_cons_zero, List.set_cons_succ]
        refine handTake 39 (some 96) ?_ rfl rfl (by kernel_rfl) (by kernel_rfl) (by kernel_rfl) (fun _ _ _ h => h) (by rfl) ?_ HS ?_
        rotate_left
        · (intro u hu; (try dsimp only at hu); go_simp; try with_reducible rfl)
        simp only [Act.put, List.setIfInBounds_toArray, List.set_cons_zero, List.set_cons_succ]
        refine handTake 40 (some 97) ?_ rfl rfl (by kernel_rfl) (by kernel_rfl) (by kernel_rfl) (fun _ _ _ h => h) (by rfl) ?_ HS ?_
        rotate_left
        · (intro u hu; (try dsimp only at hu); go_simp; try with_reducible rfl)
        simp only [Act.put, List.setIfInBounds_toArray, List.set_cons_zero, List.set_cons_succ]
        refine handTake 41 (some 98) ?_ rfl rfl (by kernel_rfl) (by kernel_rfl) (by kernel_rfl) (fun _ _ _ h => h) (by rfl) ?_ HS ?_
        rotate_left
        · (intro u hu; (try dsimp only at hu); go_simp; try with_reducible rfl)
        simp only [Act.put, List.setIfInBounds_toArray, List.set_cons_zero, List.set_cons_succ]
        refine handTake 42 (some 99) ?_ rfl rfl (by kernel_rfl) (by kernel_rfl) (by kernel_rfl) (fun _ _ _ h => h) (by rfl) ?_ HS ?_
        rotate_left
        · (intro u hu; (try dsimp only at hu); go_simp; try with_reducible rfl)
        simp only [Act.put, List.setIfInBounds_toArray, List.set_cons_zero, List.set_cons_succ]
        refine handTake 43 (some 100) ?_ rfl rfl (by kernel_rfl) (by kernel_rfl) (by kernel_rfl) (fun _ _ _ h => h) (by rfl) ?_ HS ?_
        rotate_left
        · (intro u hu; (try dsimp only at hu); go_simp; try with_reducible rfl)
        simp only [Act.put, List.setIfInBounds_toArray, List.set_cons_zero, List.set_cons_succ]
        refine handTake 44 (some 101) ?_ rfl rfl (by kernel_rfl) (by kernel_rfl) (by kernel_rfl) (fun _ _ _ h => h) (by rfl) ?_ HS ?_
        rotate_left
        · (intro u hu; (try dsimp only at hu); go_simp; try with_reducible rfl)
        simp only [Act.put, List.setIfInBounds_toArray, List.set_cons_zero, List.set_cons_succ]
        refine handTake 45 (some 102) ?_ rfl rfl (by kernel_rfl) (by kernel_rfl) (by kernel_rfl) (fun _ _ _ h => h) (by rfl) ?_ HS ?_
        rotate_left
        · (intro u hu; (try dsimp only at hu); go_simp; try with_reducible rfl)
        simp only [Act.put, List.setIfInBounds_toArray, List.set_cons_zero, List.set_cons_succ]
        refine wpAnyH_ready (rs := [46]) (by kernel_rfl) (by simp) ?_
        refine AllReadyH.cons rfl (fun K hK => ?_) AllReadyH.nil
        go_simp
        clear HS
        refine (waits_no (NO.out _ HT7)).mono ?_
        rintro e uu9 ⟨rfl, rfl⟩
        go_wp2_with fail
        refine hK.out _ _ (SOF.out _ HT7) (fun HS => ?_)
        clear hK
        try simp only [Act.put, List.setIfInBounds_toArray, List.set_cons_zero, List.set_cons_succ]
        refine handTake 47 (some 104) ?_ rfl rfl (by kernel_rfl) (by kernel_rfl) (by kernel_rfl) (fun _ _ _ h => h) (by rfl) ?_ HS ?_
        rotate_left
        · (intro u hu; (try dsimp only at hu); go_simp; try with_reducible rfl)
        simp only [Act.put, List.setIfInBounds_toArray, List.set_cons_zero, List.set_cons_succ]
        refine handTake 48 (some 105) ?_ rfl rfl (by kernel_rfl) (by kernel_rfl) (by kernel_rfl) (fun _ _ _ h => h) (by rfl) ?_ HS ?_
        rotate_left
        · (intro u hu; (try dsimp only at hu); go_simp; try with_reducible rfl)
        simp only [Act.put, List.setIfInBounds_toArray, List.set_cons_zero, List.set_cons_succ]
        refine handTake 49 (some 106) ?_ rfl rfl (by kernel_rfl) (by kernel_rfl) (by kernel_rfl) (fun _ _ _ h => h) (by rfl) ?_ HS ?_
        rotate_left
        · (intro u hu; (try dsimp only at hu); go_simp; try with_reducible rfl)
        simp only [Act.put, List.setIfInBounds_toArray, List.set_cons_zero, List.set_cons_succ]
        refine handTake 50 (some 107) ?_ rfl rfl (by kernel_rfl) (by kernel_rfl) (by kernel_rfl) (fun _ _ _ h => h) (by rfl) ?_ HS ?_
        rotate_left
        · (intro u hu; (try dsimp only at hu); go_simp; try with_reducible rfl)
        simp only [Act.put, List.setIfInBounds_toArray, List.set_cons_zero, List.set_cons_succ]
        refine handTake 51 (some 108) ?_ rfl rfl (by kernel_rfl) (by kernel_rfl) (by kernel_rfl) (fun _ _ _ h => h) (by rfl) ?_ HS ?_
        rotate_left
        · (intro u hu; (try dsimp only at hu); go_simp; try with_reducible rfl)
        simp only [Act.put, List.setIfInBounds_toArray, List.set_cons_zero, List.set_cons_succ]
        refine handTake 52 (some 109) ?_ rfl rfl (by kernel_rfl) (by kernel_rfl) (by kernel_rfl) (fun _ _ _ h => h) (by rfl) ?_ HS ?_
        rotate_left
        · (intro u hu; (try dsimp only at hu); go_simp; try with_reducible rfl)
        simp only [Act.put, List.setIfInBounds_toArray, List.set_cons_zero, List.set_cons_succ]
        refine handTake 53 (some 110) ?_ rfl rfl (by kernel_rfl) (by kernel_rfl) (by kernel_rfl) (fun _ _ _ h => h) (by rfl) ?_ HS ?_
        rotate_left
        · (intro u hu; (try dsimp only at hu); go_simp; try with_reducible rfl)
        simp only [Act.put, List.setIfInBounds_toArray, List.set_cons_zero, List.set_cons_succ]
        refine wpAnyH_ready (rs := [54]) (by kernel_rfl) (by simp) ?_
        refine AllReadyH.cons rfl (fun K hK => ?_) AllReadyH.nil
        go_simp
        clear HS
        refine (up_no (NO.out _ HT7)).mono ?_
        rintro e uu10 ⟨rfl, rfl⟩
        go_wp2_with fail
        refine hK.out _ _ (SOF.out _ HT7) (fun HS => ?_)
        clear hK
        try simp only [Act.put, List.setIfInBounds_toArray, List.set_cons_zero, List.set_cons_succ]
        refine handTake 55 (some 112) ?_ rfl rfl (by kernel_rfl) (by kernel_rfl) (by kernel_rfl) (fun _ _ _ h => h) (by rfl) ?_ HS ?_
        rotate_left
        · (intro u hu; (try dsimp only at hu); go_simp; try with_reducible rfl)
        simp only [Act.put, List.setIfInBounds_toArray, List.set_cons_zero, List.set_cons_succ]
        refine wpAnyH_done (by kernel_rfl) ?_ _
        clear HS
        have HS11 := HT7
        go_wp2_with fail
        go_round
        · exact ⟨k + 1, by omega, by go_num, HS11.out⟩
        · show 2 - ((k : Int) + 1).toNat < 2 - (k : Int).toNat; omega
      · have hk2 : k = 2 := by omega
        subst hk2
        go_wp2_with fail
        go_ret
        exact ⟨rfl, HS0.out.below⟩
  · rw [hg] at GR
    have GR := Lib.hid GR
    clear hg
    show Calls Try.prog 6 #[.agg #[.int .u8 (kd : Nat), .int .i64 sc, .int .i64 nn, .slice Ab bs.length cb, .slice Ak ks.length ck]] W _
    go_enter Try.func6, Try.ntmps6
    go_wp2_with fail
    rw [← hU0]
    clear c0 c1 c2 c3 c4 hU0
    refine GR.out.mono ?_
    rintro e u9 ⟨rfl, rfl⟩
    go_wp2_with fail
    go_ret
    exact ⟨rfl, hB0⟩
end Di
end Go.Proofs.Ytnjejffbcgchlaa
