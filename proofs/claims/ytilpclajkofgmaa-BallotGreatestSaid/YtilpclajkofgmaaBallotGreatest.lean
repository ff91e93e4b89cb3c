/- The walk of the statement that the greatest of ballots is one of them, and none is behind it. -/
import Derived.Test.YtilpclajkofgmaaBallotAwake
import Derived.Test.YtilpclajkofgmaaBallotEql
import Derived.Test.YtilpclajkofgmaaAppend
set_option linter.unusedSimpArgs false
set_option linter.unusedVariables false
namespace Go.Proofs.Ytilpclajkofgmaa
open Go.RowKit

namespace Bl
attribute [local go_sem ↓] Bl.eql_ba Bl.neq_ba

theorem info_ballot : (Try.prog.info? 23).map (fun i => (i.zero, i.size, i.bytes)) = some (some (.agg #[.int .i64 0, .int .i64 0]), 2, 16) := by kernel_rfl
theorem max_lit (l : List Ba) (v : Value) (w : World) (hr : Row w w.heap.size v l.length (l.flatMap Ba.cells)) :
    Calls Try.prog 9 #[v] w fun e w' => e = .returned (.agg #[.int .i64 (maxL l).r, .int .i64 (maxL l).p]) ∧ Below w.heap.size w w' := max_any l v w hr
theorem from_of (f : Int) (n : Nat) (h0 : 0 < n) (h1 : n ≤ 200) : ∃ q : Int, wrap64 ((IntKind.u64.wrap f).tmod (n : Int)) = q ∧ 0 ≤ q ∧ q < n := by
  refine ⟨_, rfl, ?_⟩
  unfold wrap64
  rw [IntKind.wrap_u64, Int.tmod_eq_emod_of_nonneg (by omega)]
  have h2 := Int.emod_nonneg (f % 18446744073709551616) (b := (n : Int)) (by omega)
  have h3 := Int.emod_lt_of_pos (f % 18446744073709551616) (b := (n : Int)) (by omega)
  omega

set_option maxHeartbeats 8000000 in
theorem greatest_any (l : List Ba) (v : Value) (f : Int) (w : World) (hr : Row w w.heap.size v l.length (l.flatMap Ba.cells)) :
    Calls Try.prog 6 #[v, .int .i64 f] w fun e w' => e = .returned (.bool true) ∧ Below w.heap.size w w' := by
  obtain ⟨A, c, rfl, hn, hc⟩ := hr.slice
  have hlen := hr.bound
  have HR := Lib.hid hr; clear hr
  have AW := Lib.hid awake_any
  by_cases h0 : l.length = 0
  · have h0' : ((l.length : Int) == 0) = true := by simpa using h0
    rw [h0] at h0' ⊢
    clear h0'
    go_enter Try.func6, Try.ntmps6
    go_wp2_with fail
    refine (AW.out _).mono ?_
    rintro e u ⟨rfl, hb⟩
    have HB := Lib.hid hb; clear hb
    have s1 : sameB ⟨0, 0⟩ ⟨0, 0⟩ = true := rfl
    go_wp2_with fail
    refine (max_nil _).mono ?_
    rintro e u1 ⟨rfl, hb⟩
    have HB1 := Lib.hid (HB.out.trans (hb.mono HB.out.size)); clear hb
    go_wp2_with fail
    go_ret
    exact ⟨by first | rfl | simp, HB1.out⟩
  by_cases hbig : 200 < l.length
  · have hbig' : (200 : Int) < (l.length : Int) := by omega
    have h0' : ((l.length : Int) == 0) = false := by simpa using h0
    go_enter Try.func6, Try.ntmps6
    go_wp2_with fail
    refine (AW.out _).mono ?_
    rintro e u ⟨rfl, hb⟩
    have HB := Lib.hid hb; clear hb
    have s1 : sameB ⟨0, 0⟩ ⟨0, 0⟩ = true := rfl
    go_wp2_with fail
    refine (max_nil _).mono ?_
    rintro e u1 ⟨rfl, hb⟩
    have HB1 := Lib.hid (HB.out.trans (hb.mono HB.out.size)); clear hb
    go_wp2_with fail
    go_ret
    exact ⟨by first | rfl | simp, HB1.out⟩
  have hbig' : (l.length : Int) ≤ 200 := by omega
  have h0' : ((l.length : Int) == 0) = false := by simpa using h0
  have hlu : IntKind.u64.wrap (l.length : Int) = (l.length : Int) := by rw [IntKind.wrap_u64]; omega
  have hlz : ¬ (l.length : Int) = 0 := by omega
  obtain ⟨q, hq, hq0, hq1⟩ := from_of f l.length (by omega) (by omega)
  obtain ⟨i0, hi, hz0, hz1, hz2⟩ := info_parts info_ballot
  have LL := Lib.hid less_any
  have hne : l ≠ [] := by intro e; subst e; simp at h0
  have HG : Hid (∀ x, x ∈ l → lessB (maxL l) x = false) := fun x hx => max_ge hx
  have HM := Lib.hid (max_mem hne)
  have HI : Hid (∀ (l : List Ba) (m : Ba), m ∈ l → (∀ x ∈ l, lessB m x = false) → maxL l = m) := fun l m h k => max_is h k
  clear h0 hne
  have KB := Lib.hid (Below.refl w.heap.size w)
  go_enter Try.func6, Try.ntmps6
  go_wp2_with fail
  refine (AW.out _).mono ?_
  rintro e1 u1 ⟨rfl, hb⟩
  have HB := KB.out.trans (hb.mono (by first | omega | (simp; done) | (simp; omega) | (simp at *; omega)))
  clear hb KB
  have z_u1 := HB.size
  have KB := Lib.hid HB; clear HB
  go_wp2_with fail
  rw [hq]
  clear hq
  refine (max_lit l _ _ ((HR.out.below KB.out).more (by first | omega | (simp; done) | (simp; omega) | (simp at *; omega)))).mono ?_
  rintro e2 u2 ⟨rfl, hb⟩
  have HB := KB.out.trans (hb.mono (by first | omega | (simp; done) | (simp; omega) | (simp at *; omega)))
  clear hb KB
  have z_u2 := HB.size
  have KB := Lib.hid HB; clear HB
  go_wp2_with fail
  generalize hmr : (maxL l).r = mr at *
  generalize hmp : (maxL l).p = mp at *
  have HX : Hid (maxL l = ⟨mr, mp⟩) := by show _ = _; rw [← hmr, ← hmp]
  clear hmr hmp
  obtain ⟨W3, hW⟩ : ∃ W : World, W = (u2.alloc (.cells #[.int .i64 mr, .int .i64 mp] 23)) := ⟨_, rfl⟩
  have H_m : Whole W3 (u2.heap.size) 23 [.int .i64 mr, .int .i64 mp] := by rw [hW]; exact (Whole.new _ 23 _)
  have HB : Below w.heap.size w W3 := by rw [hW]; exact (KB.out.alloc (by first | omega | (simp; done) | (simp; omega) | (simp at *; omega)) _)
  rw [← hW]
  clear hW KB
  have z_W3 := HB.size
  have c_m_0 := H_m.cell 0; have f_m_0 := H_m.free 0; have c_m_1 := H_m.cell 1; have f_m_1 := H_m.free 1
  simp only [List.set_cons_zero, List.set_cons_succ, List.getElem?_cons_zero, List.getElem?_cons_succ] at c_m_0 c_m_1
  have l_m := H_m.lt; have K_m := Lib.hid H_m; clear H_m
  have KB := Lib.hid HB; clear HB
  go_wp2_with fail
  go_loopw [5, 7, 8] (fun tv is iv wr => ∃ (k : Nat) (tw : List Ba), k ≤ l.length ∧ iv = .int .i64 k ∧ is = .bool ((l.take k).any fun x => sameB x ⟨mr, mp⟩) ∧ tw.length = 2 * k ∧ (∀ x ∈ tw, x ∈ l) ∧ (∀ x ∈ l.take k, x ∈ tw) ∧
      wr.ownsRow W3.heap.size 23 2 tv (2 * k) (tw.flatMap Ba.cells) ∧ Below W3.heap.size W3 wr) (fun _ _ iv _ => l.length - (intOf iv).toNat)
  case atStart => exact ⟨0, [], Nat.zero_le _, rfl, rfl, rfl, by simp, by simp, World.ownsRow_nil _ _ _ _, Below.refl _ _⟩
  case round =>
    obtain ⟨k, tw, hk, rfl, rfl, htl, ht1, ht2, H_tw, hbr⟩ := hrel
    have H_m := K_m.out.below hbr K_m.out.lt
    have zW := hbr.size
    have mW := K_m.out.lt
    have HB := KB.out.trans (hbr.mono KB.out.size)
    have T1 := Lib.hid ht1; have T2 := Lib.hid ht2; have TL := Lib.hid htl
    have H_BR := hbr
    clear hbr ht1 ht2
    by_cases hlt : k < l.length
    · have h2 := HR.out
      obtain ⟨b2, o2, rfl, hb2, hx2⟩ := h2.elem cells_len (by omega) hlt
      have x0 := hx2 0 _ rfl
      have x1 := hx2 1 _ rfl
      clear hx2
      -- the other one
      have qk : 0 ≤ q + (k : Int) := by omega
      obtain ⟨j, hj⟩ : ∃ j : Nat, (q + (k : Int)).tmod (l.length : Int) = (j : Int) ∧ j < l.length := by
        rw [Int.tmod_eq_emod_of_nonneg qk]
        have e0 := Int.emod_nonneg (q + (k : Int)) (b := (l.length : Int)) (by omega)
        have e1 := Int.emod_lt_of_pos (q + (k : Int)) (b := (l.length : Int)) (by omega)
        exact ⟨((q + (k : Int)) % (l.length : Int)).toNat, by omega, by omega⟩
      obtain ⟨hj, hjl⟩ := hj
      obtain ⟨b3, o3, hA, _, hx3⟩ := h2.elem cells_len (by omega) hjl
      obtain ⟨rfl, rfl⟩ : b2 = b3 ∧ o2 = o3 := by injection hA with hA; injection hA with e1 e2; exact ⟨e1, e2⟩
      have y0 := hx3 0 _ rfl
      have y1 := hx3 1 _ rfl
      clear hx3 h2 hA
      simp only [Nat.add_zero] at x0 y0
      rw [← Nat.add_assoc] at x1 y1
      have hin1 := List.getElem_mem hlt
      have hin2 := List.getElem_mem hjl
      have hge := HG.out _ hin1
      rw [HX.out] at hge
      have hany : (l.take (k + 1)).any (fun x => sameB x ⟨mr, mp⟩) = ((l.take k).any (fun x => sameB x ⟨mr, mp⟩) || sameB l[k] ⟨mr, mp⟩) := by
        rw [List.take_succ_eq_append_getElem hlt, List.any_append]; simp
      have htk : ∀ x ∈ l.take (k + 1), x ∈ l.take k ∨ x = l[k] := by
        intro x hx
        rw [List.take_succ_eq_append_getElem hlt] at hx
        rcases List.mem_append.1 hx with h | h
        · exact .inl h
        · exact .inr (by simpa using h)
      have HT1 : Hid (∀ x ∈ tw ++ [l[j], l[k]], x ∈ l) := by
        intro x hx
        rcases List.mem_append.1 hx with h | h
        · exact T1.out x h
        · simp only [List.mem_cons, List.not_mem_nil, or_false] at h
          rcases h with rfl | rfl
          · exact hin2
          · exact hin1
      have HT2 : Hid (∀ x ∈ l.take (k + 1), x ∈ tw ++ [l[j], l[k]]) := by
        intro x hx
        rcases htk x hx with h | h
        · exact List.mem_append_left _ (T2.out x h)
        · exact List.mem_append_right _ (by simp [h])
      have hxr : (l[k]).cells = [.int .i64 l[k].r, .int .i64 l[k].p] := rfl
      have HFL : Hid ((tw ++ [l[j], l[k]]).flatMap Ba.cells = tw.flatMap Ba.cells ++ [.int .i64 l[j].r, .int .i64 l[j].p, .int .i64 l[k].r, .int .i64 l[k].p]) := by
        show _ = _
        rw [List.flatMap_append]; rfl
      have HTL : Hid ((tw ++ [l[j], l[k]]).length = 2 * (k + 1)) := by
        show _ = _
        rw [List.length_append, htl]; rfl
      have hfl1 : ∀ u ∈ ([.int .i64 l[j].r, .int .i64 l[j].p, .int .i64 l[k].r, .int .i64 l[k].p] : List Value), u.oneCell' = true := by
        intro u hu
        simp only [List.mem_cons, List.not_mem_nil, or_false] at hu
        rcases hu with rfl | rfl | rfl | rfl <;> rfl
      have HF1 := Lib.hid hfl1
      clear hfl1 hxr htk hin1 hin2 htl T1 T2 TL
      have hlss : lessB ⟨mr, mp⟩ ⟨l[k].r, l[k].p⟩ = false := hge
      have hany : (l.take (k + 1)).any (fun x => sameB x ⟨mr, mp⟩) = ((l.take k).any (fun x => sameB x ⟨mr, mp⟩) || sameB ⟨l[k].r, l[k].p⟩ ⟨mr, mp⟩) := hany
      clear hge
      generalize hak : l[k] = ak at *
      generalize haj : l[j] = aj at *
      have HAK := Lib.hid hak; have HAJ := Lib.hid haj; clear hak haj
      have L1 := less_any ⟨mr, mp⟩ ⟨ak.r, ak.p⟩
      rw [hlss] at L1
      simp only [Ba.cells] at L1
      have L1 := Lib.hid L1
      clear hlss
      have hw1 : IntKind.i64.wrap (q + (k : Int)) = q + (k : Int) := IntWalk.i64_in _ (by omega)
      have hj0 : (0 : Int) ≤ (j : Int) := by omega
      have hj1 : (j : Int) < (l.length : Int) := by omega
      have hk0 : (0 : Int) ≤ (k : Int) := by omega
      have hk1 : (k : Int) < (l.length : Int) := by omega
      have hnil : ¬ l = [] := by intro e; rw [e] at hlt; simp at hlt
      generalize hqa : (l.take k).any (fun x => sameB x ⟨mr, mp⟩) = qa at *
      have HQA := Lib.hid hqa; clear hqa
      generalize hqb : sameB ⟨ak.r, ak.p⟩ ⟨mr, mp⟩ = qb at *
      cases qa
      · have hany' := Lib.hid hany; clear hany
        clear c_m_0 c_m_1 f_m_0 f_m_1 l_m K_m KB
        have z_BR_wr := H_BR.size
        have z_wr := HB.size
        have c_m_0 := H_m.cell 0; have f_m_0 := H_m.free 0; have c_m_1 := H_m.cell 1; have f_m_1 := H_m.free 1
        simp only [List.set_cons_zero, List.set_cons_succ, List.getElem?_cons_zero, List.getElem?_cons_succ] at c_m_0 c_m_1
        have l_m := H_m.lt; have K_m := Lib.hid H_m; clear H_m
        have K_tw := Lib.hid H_tw; clear H_tw
        have K_BR := Lib.hid H_BR; clear H_BR
        have KB := Lib.hid HB; clear HB
        go_wp2_with fail
        have SOF : Hid (∀ u : World, Hid (Known u [(u2.heap.size, 23, [.int .i64 mr, .int .i64 mp])] ∧ Below w.heap.size w u) → (fun u : World => (u.cell? ⟨u2.heap.size, 0, none⟩ = some (.int .i64 mr) ∧ u.cell? ⟨u2.heap.size, 1, none⟩ = some (.int .i64 mp) ∧ u.cell? ⟨b2, o2 + k * 2, none⟩ = some (.int .i64 ak.r) ∧ u.cell? ⟨b2, o2 + k * 2 + 1, none⟩ = some (.int .i64 ak.p)) ∧ Hid (Known u [(u2.heap.size, 23, [.int .i64 mr, .int .i64 mp])] ∧ Below w.heap.size w u)) u) := fun u h => ⟨⟨(h.out.1.head.cell 0), (h.out.1.head.cell 1), ((h.out.2.cell (p := ⟨b2, o2 + k * 2, none⟩) hb2).trans x0), ((h.out.2.cell (p := ⟨b2, o2 + k * 2 + 1, none⟩) hb2).trans x1)⟩, h⟩
        refine wp_region_held_drew (S := (fun u : World => (u.cell? ⟨u2.heap.size, 0, none⟩ = some (.int .i64 mr) ∧ u.cell? ⟨u2.heap.size, 1, none⟩ = some (.int .i64 mp) ∧ u.cell? ⟨b2, o2 + k * 2, none⟩ = some (.int .i64 ak.r) ∧ u.cell? ⟨b2, o2 + k * 2 + 1, none⟩ = some (.int .i64 ak.p)) ∧ Hid (Known u [(u2.heap.size, 23, [.int .i64 mr, .int .i64 mp])] ∧ Below w.heap.size w u))) (by kernel_rfl) (SOF.out _ ⟨(Known.add (K_m.out.drew) (Known.nil _)), (KB.out.drew)⟩) (fun HS => ?_)
        refine handTake 0 (some 37) ?_ rfl rfl (by kernel_rfl) (by kernel_rfl) (by kernel_rfl) (fun _ _ _ h => h) (by rfl) ?_ HS ?_
        rotate_left
        · (intro u hu; (try dsimp only at hu); go_simp; try with_reducible rfl)
        simp only [Act.put, List.setIfInBounds_toArray, List.set_cons_zero, List.set_cons_succ]
        refine handTake 1 (some 38) ?_ rfl rfl (by kernel_rfl) (by kernel_rfl) (by kernel_rfl) (fun _ _ _ h => h) (by rfl) ?_ HS ?_
        rotate_left
        · (intro u hu; (try dsimp only at hu); go_simp; try with_reducible rfl)
        simp only [Act.put, List.setIfInBounds_toArray, List.set_cons_zero, List.set_cons_succ]
        refine handTake 2 (some 39) ?_ rfl rfl (by kernel_rfl) (by kernel_rfl) (by kernel_rfl) (fun _ _ _ h => h) (by rfl) ?_ HS ?_
        rotate_left
        · (intro u hu; (try dsimp only at hu); go_simp; try with_reducible rfl)
        simp only [Act.put, List.setIfInBounds_toArray, List.set_cons_zero, List.set_cons_succ]
        refine handTake 3 (some 40) ?_ rfl rfl (by kernel_rfl) (by kernel_rfl) (by kernel_rfl) (fun _ _ _ h => h) (by rfl) ?_ HS ?_
        rotate_left
        · (intro u hu; (try dsimp only at hu); go_simp; try with_reducible rfl)
        simp only [Act.put, List.setIfInBounds_toArray, List.set_cons_zero, List.set_cons_succ]
        refine handTake 4 (some 41) ?_ rfl rfl (by kernel_rfl) (by kernel_rfl) (by kernel_rfl) (fun _ _ _ h => h) (by rfl) ?_ HS ?_
        rotate_left
        · (intro u hu; (try dsimp only at hu); go_simp; try with_reducible rfl)
        simp only [Act.put, List.setIfInBounds_toArray, List.set_cons_zero, List.set_cons_succ]
        refine handTake 5 (some 42) ?_ rfl rfl (by kernel_rfl) (by kernel_rfl) (by kernel_rfl) (fun _ _ _ h => h) (by rfl) ?_ HS ?_
        rotate_left
        · (intro u hu; (try dsimp only at hu); go_simp; try with_reducible rfl)
        simp only [Act.put, List.setIfInBounds_toArray, List.set_cons_zero, List.set_cons_succ]
        refine handTake 6 (some 43) ?_ rfl rfl (by kernel_rfl) (by kernel_rfl) (by kernel_rfl) (fun _ _ _ h => h) (by rfl) ?_ HS ?_
        rotate_left
        · (intro u hu; (try dsimp only at hu); go_simp; try with_reducible rfl)
        simp only [Act.put, List.setIfInBounds_toArray, List.set_cons_zero, List.set_cons_succ]
        refine handTake 7 (some 44) ?_ rfl rfl (by kernel_rfl) (by kernel_rfl) (by kernel_rfl) (fun _ _ _ h => h) (by rfl) ?_ HS ?_
        rotate_left
        · (intro u hu; (try dsimp only at hu); go_simp; try with_reducible rfl)
        simp only [Act.put, List.setIfInBounds_toArray, List.set_cons_zero, List.set_cons_succ]
        refine handTake 8 (some 45) ?_ rfl rfl (by kernel_rfl) (by kernel_rfl) (by kernel_rfl) (fun _ _ _ h => h) (by rfl) ?_ HS ?_
        rotate_left
        · (intro u hu; (try dsimp only at hu); go_simp; try with_reducible rfl)
        simp only [Act.put, List.setIfInBounds_toArray, List.set_cons_zero, List.set_cons_succ]
        refine handTake 9 (some 7) ?_ rfl rfl (by kernel_rfl) (by kernel_rfl) (by kernel_rfl) (fun _ _ _ h => h) (by rfl) ?_ HS ?_
        rotate_left
        · (intro u hu; (try dsimp only at hu); go_simp; try with_reducible rfl)
        simp only [Act.put, List.setIfInBounds_toArray, List.set_cons_zero, List.set_cons_succ]
        refine wpAnyH_done (by kernel_rfl) ?_ _
        clear HS SOF
        go_wp2_with fail
        obtain ⟨W4, hW⟩ : ∃ W : World, W = wr.drew := ⟨_, rfl⟩
        have H_m : Whole W4 (u2.heap.size) 23 [.int .i64 mr, .int .i64 mp] := by rw [hW]; exact (K_m.out.drew)
        have H_tw := own_at hW (own_drew K_tw.out)
        have H_BR : Below W3.heap.size W3 W4 := by rw [hW]; exact (K_BR.out.drew)
        have HB : Below w.heap.size w W4 := by rw [hW]; exact (KB.out.drew)
        rw [← hW]
        clear c_m_0 c_m_1 f_m_0 f_m_1 l_m
        clear hW KB K_m K_tw K_BR
        have z_W4 := HB.size
        have z_BR_W4 := H_BR.size
        have c_m_0 := H_m.cell 0; have f_m_0 := H_m.free 0; have c_m_1 := H_m.cell 1; have f_m_1 := H_m.free 1
        simp only [List.set_cons_zero, List.set_cons_succ, List.getElem?_cons_zero, List.getElem?_cons_succ] at c_m_0 c_m_1
        have l_m := H_m.lt; have K_m := Lib.hid H_m; clear H_m
        have K_tw := Lib.hid H_tw; clear H_tw
        have K_BR := Lib.hid H_BR; clear H_BR
        have KB := Lib.hid HB; clear HB
        have SOF : Hid (∀ u : World, Hid (Known u [(u2.heap.size, 23, [.int .i64 mr, .int .i64 mp])] ∧ Below w.heap.size w u) → (fun u : World => (u.cell? ⟨u2.heap.size, 0, none⟩ = some (.int .i64 mr) ∧ u.cell? ⟨u2.heap.size, 1, none⟩ = some (.int .i64 mp) ∧ u.cell? ⟨b2, o2 + k * 2, none⟩ = some (.int .i64 ak.r) ∧ u.cell? ⟨b2, o2 + k * 2 + 1, none⟩ = some (.int .i64 ak.p)) ∧ Hid (Known u [(u2.heap.size, 23, [.int .i64 mr, .int .i64 mp])] ∧ Below w.heap.size w u)) u) := fun u h => ⟨⟨(h.out.1.head.cell 0), (h.out.1.head.cell 1), ((h.out.2.cell (p := ⟨b2, o2 + k * 2, none⟩) hb2).trans x0), ((h.out.2.cell (p := ⟨b2, o2 + k * 2 + 1, none⟩) hb2).trans x1)⟩, h⟩
        refine wp_region_held_drew (S := (fun u : World => (u.cell? ⟨u2.heap.size, 0, none⟩ = some (.int .i64 mr) ∧ u.cell? ⟨u2.heap.size, 1, none⟩ = some (.int .i64 mp) ∧ u.cell? ⟨b2, o2 + k * 2, none⟩ = some (.int .i64 ak.r) ∧ u.cell? ⟨b2, o2 + k * 2 + 1, none⟩ = some (.int .i64 ak.p)) ∧ Hid (Known u [(u2.heap.size, 23, [.int .i64 mr, .int .i64 mp])] ∧ Below w.heap.size w u))) (by kernel_rfl) (SOF.out _ ⟨(Known.add (K_m.out.drew) (Known.nil _)), (KB.out.drew)⟩) (fun HS => ?_)
        refine handTake 0 (some 46) ?_ rfl rfl (by kernel_rfl) (by kernel_rfl) (by kernel_rfl) (fun _ _ _ h => h) (by rfl) ?_ HS ?_
        rotate_left
        · (intro u hu; (try dsimp only at hu); go_simp; try with_reducible rfl)
        simp only [Act.put, List.setIfInBounds_toArray, List.set_cons_zero, List.set_cons_succ]
        refine handTake 1 (some 47) ?_ rfl rfl (by kernel_rfl) (by kernel_rfl) (by kernel_rfl) (fun _ _ _ h => h) (by rfl) ?_ HS ?_
        rotate_left
        · (intro u hu; (try dsimp only at hu); go_simp; try with_reducible rfl)
        simp only [Act.put, List.setIfInBounds_toArray, List.set_cons_zero, List.set_cons_succ]
        refine handTake 2 (some 48) ?_ rfl rfl (by kernel_rfl) (by kernel_rfl) (by kernel_rfl) (fun _ _ _ h => h) (by rfl) ?_ HS ?_
        rotate_left
        · (intro u hu; (try dsimp only at hu); go_simp; try with_reducible rfl)
        simp only [Act.put, List.setIfInBounds_toArray, List.set_cons_zero, List.set_cons_succ]
        refine handTake 3 (some 49) ?_ rfl rfl (by kernel_rfl) (by kernel_rfl) (by kernel_rfl) (fun _ _ _ h => h) (by rfl) ?_ HS ?_
        rotate_left
        · (intro u hu; (try dsimp only at hu); go_simp; try with_reducible rfl)
        simp only [Act.put, List.setIfInBounds_toArray, List.set_cons_zero, List.set_cons_succ]
        refine handTake 4 (some 50) ?_ rfl rfl (by kernel_rfl) (by kernel_rfl) (by kernel_rfl) (fun _ _ _ h => h) (by rfl) ?_ HS ?_
        rotate_left
        · (intro u hu; (try dsimp only at hu); go_simp; try with_reducible rfl)
        simp only [Act.put, List.setIfInBounds_toArray, List.set_cons_zero, List.set_cons_succ]
        refine wpAnyH_ready (rs := [5]) (by kernel_rfl) (by simp) ?_
        refine AllReadyH.cons rfl (fun K hK => ?_) AllReadyH.nil
        go_simp
        clear HS
        refine (L1.out _).mono ?_
        rintro e5 u5 ⟨rfl, hb⟩
        have H_m : Whole u5 (u2.heap.size) 23 _ := Whole.below (K_m.out.drew) hb (by first | omega | (simp; done) | (simp; omega) | (simp at *; omega))
        have H_tw := own_below (own_drew K_tw.out) hb
        have H_BR := (K_BR.out.drew).trans (hb.mono (by first | omega | (simp; done) | (simp; omega) | (simp at *; omega)))
        have HB := (KB.out.drew).trans (hb.mono (by first | omega | (simp; done) | (simp; omega) | (simp at *; omega)))
        clear c_m_0 c_m_1 f_m_0 f_m_1 l_m
        clear hb KB K_m K_tw K_BR
        have z_u5 := HB.size
        have z_BR_u5 := H_BR.size
        have c_m_0 := H_m.cell 0; have f_m_0 := H_m.free 0; have c_m_1 := H_m.cell 1; have f_m_1 := H_m.free 1
        simp only [List.set_cons_zero, List.set_cons_succ, List.getElem?_cons_zero, List.getElem?_cons_succ] at c_m_0 c_m_1
        have l_m := H_m.lt; have K_m := Lib.hid H_m; clear H_m
        have K_tw := Lib.hid H_tw; clear H_tw
        have K_BR := Lib.hid H_BR; clear H_BR
        have KB := Lib.hid HB; clear HB
        have HS' := Lib.hid (SOF.out _ ⟨(Known.add K_m.out (Known.nil _)), KB.out⟩)
        go_wp2_with fail
        refine hK.out _ _ HS'.out (fun HS => ?_)
        clear hK HS'
        try simp only [Act.put, List.setIfInBounds_toArray, List.set_cons_zero, List.set_cons_succ]
        refine wpAnyH_done (by kernel_rfl) ?_ _
        clear HS SOF
        go_wp2_with fail
        have SOF : Hid (∀ u : World, Hid (Known u [(u2.heap.size, 23, [.int .i64 mr, .int .i64 mp])] ∧ Below w.heap.size w u) → (fun u : World => (u.cell? ⟨u2.heap.size, 0, none⟩ = some (.int .i64 mr) ∧ u.cell? ⟨u2.heap.size, 1, none⟩ = some (.int .i64 mp) ∧ u.cell? ⟨b2, o2 + k * 2, none⟩ = some (.int .i64 ak.r) ∧ u.cell? ⟨b2, o2 + k * 2 + 1, none⟩ = some (.int .i64 ak.p) ∧ u.cell? ⟨b2, o2 + j * 2, none⟩ = some (.int .i64 aj.r) ∧ u.cell? ⟨b2, o2 + j * 2 + 1, none⟩ = some (.int .i64 aj.p)) ∧ Hid (Known u [(u2.heap.size, 23, [.int .i64 mr, .int .i64 mp])] ∧ Below w.heap.size w u)) u) := fun u h => ⟨⟨(h.out.1.head.cell 0), (h.out.1.head.cell 1), ((h.out.2.cell (p := ⟨b2, o2 + k * 2, none⟩) hb2).trans x0), ((h.out.2.cell (p := ⟨b2, o2 + k * 2 + 1, none⟩) hb2).trans x1), ((h.out.2.cell (p := ⟨b2, o2 + j * 2, none⟩) hb2).trans y0), ((h.out.2.cell (p := ⟨b2, o2 + j * 2 + 1, none⟩) hb2).trans y1)⟩, h⟩
        refine wp_region_held_drew (S := (fun u : World => (u.cell? ⟨u2.heap.size, 0, none⟩ = some (.int .i64 mr) ∧ u.cell? ⟨u2.heap.size, 1, none⟩ = some (.int .i64 mp) ∧ u.cell? ⟨b2, o2 + k * 2, none⟩ = some (.int .i64 ak.r) ∧ u.cell? ⟨b2, o2 + k * 2 + 1, none⟩ = some (.int .i64 ak.p) ∧ u.cell? ⟨b2, o2 + j * 2, none⟩ = some (.int .i64 aj.r) ∧ u.cell? ⟨b2, o2 + j * 2 + 1, none⟩ = some (.int .i64 aj.p)) ∧ Hid (Known u [(u2.heap.size, 23, [.int .i64 mr, .int .i64 mp])] ∧ Below w.heap.size w u))) (by kernel_rfl) (SOF.out _ ⟨(Known.add (K_m.out.drew) (Known.nil _)), (KB.out.drew)⟩) (fun HS => ?_)
        refine handTake 0 (some 52) ?_ rfl rfl (by kernel_rfl) (by kernel_rfl) (by kernel_rfl) (fun _ _ _ h => h) (by rfl) ?_ HS ?_
        rotate_left
        · (intro u hu; (try dsimp only at hu); go_simp; try with_reducible rfl)
        simp only [Act.put, List.setIfInBounds_toArray, List.set_cons_zero, List.set_cons_succ]
        refine handTake 1 (some 53) ?_ rfl rfl (by kernel_rfl) (by kernel_rfl) (by kernel_rfl) (fun _ _ _ h => h) (by rfl) ?_ HS ?_
        rotate_left
        · (intro u hu; (try dsimp only at hu); go_simp; try with_reducible rfl)
        simp only [Act.put, List.setIfInBounds_toArray, List.set_cons_zero, List.set_cons_succ]
        refine handTake 2 (some 54) ?_ rfl rfl (by kernel_rfl) (by kernel_rfl) (by kernel_rfl) (fun _ _ _ h => h) (by rfl) ?_ HS ?_
        rotate_left
        · (intro u hu; (try dsimp only at hu); go_simp; try with_reducible rfl)
        simp only [Act.put, List.setIfInBounds_toArray, List.set_cons_zero, List.set_cons_succ]
        refine handTake 3 (some 55) ?_ rfl rfl (by kernel_rfl) (by kernel_rfl) (by kernel_rfl) (fun _ _ _ h => h) (by rfl) ?_ HS ?_
        rotate_left
        · (intro u hu; (try dsimp only at hu); go_simp; try with_reducible rfl)
        simp only [Act.put, List.setIfInBounds_toArray, List.set_cons_zero, List.set_cons_succ]
        refine handTake 4 (some 56) ?_ rfl rfl (by kernel_rfl) (by kernel_rfl) (by kernel_rfl) (fun _ _ _ h => h) (by rfl) ?_ HS ?_
        rotate_left
        · (intro u hu; (try dsimp only at hu); go_simp; try with_reducible rfl)
        simp only [Act.put, List.setIfInBounds_toArray, List.set_cons_zero, List.set_cons_succ]
        refine handTake 5 (some 57) ?_ rfl rfl (by kernel_rfl) (by kernel_rfl) (by kernel_rfl) (fun _ _ _ h => h) (by rfl) ?_ HS ?_
        rotate_left
        · (intro u hu; (try dsimp only at hu); go_simp; try with_reducible rfl)
        simp only [Act.put, List.setIfInBounds_toArray, List.set_cons_zero, List.set_cons_succ]
        refine handTake 6 (some 58) ?_ rfl rfl (by kernel_rfl) (by kernel_rfl) (by kernel_rfl) (fun _ _ _ h => h) (by rfl) ?_ HS ?_
        rotate_left
        · (intro u hu; (try dsimp only at hu); go_simp; try with_reducible rfl)
        simp only [Act.put, List.setIfInBounds_toArray, List.set_cons_zero, List.set_cons_succ]
        refine handTake 7 (some 59) ?_ rfl rfl (by kernel_rfl) (by kernel_rfl) (by kernel_rfl) (fun _ _ _ h => h) (by rfl) ?_ HS ?_
        rotate_left
        · (intro u hu; (try dsimp only at hu); go_simp; try with_reducible rfl)
        simp only [Act.put, List.setIfInBounds_toArray, List.set_cons_zero, List.set_cons_succ]
        refine handTake 8 (some 60) ?_ rfl rfl (by kernel_rfl) (by kernel_rfl) (by kernel_rfl) (fun _ _ _ h => h) (by rfl) ?_ HS ?_
        rotate_left
        · (intro u hu; (try dsimp only at hu); go_simp; try with_reducible rfl)
        simp only [Act.put, List.setIfInBounds_toArray, List.set_cons_zero, List.set_cons_succ]
        refine handTake 9 (some 61) ?_ rfl rfl (by kernel_rfl) (by kernel_rfl) (by kernel_rfl) (fun _ _ _ h => h) (by rfl) ?_ HS ?_
        rotate_left
        · (intro u hu; (try dsimp only at hu); go_simp; try with_reducible rfl)
        simp only [Act.put, List.setIfInBounds_toArray, List.set_cons_zero, List.set_cons_succ]
        refine handTake 10 (some 62) ?_ rfl rfl (by kernel_rfl) (by kernel_rfl) (by kernel_rfl) (fun _ _ _ h => h) (by rfl) ?_ HS ?_
        rotate_left
        · (intro u hu; (try dsimp only at hu); go_simp; try with_reducible rfl)
        simp only [Act.put, List.setIfInBounds_toArray, List.set_cons_zero, List.set_cons_succ]
        refine handTake 11 (some 63) ?_ rfl rfl (by kernel_rfl) (by kernel_rfl) (by kernel_rfl) (fun _ _ _ h => h) (by rfl) ?_ HS ?_
        rotate_left
        · (intro u hu; (try dsimp only at hu); go_simp; try with_reducible rfl)
        simp only [Act.put, List.setIfInBounds_toArray, List.set_cons_zero, List.set_cons_succ]
        refine handTake 12 (some 64) ?_ rfl rfl (by kernel_rfl) (by kernel_rfl) (by kernel_rfl) (fun _ _ _ h => h) (by rfl) ?_ HS ?_
        rotate_left
        · (intro u hu; (try dsimp only at hu); go_simp; try with_reducible rfl)
        simp only [Act.put, List.setIfInBounds_toArray, List.set_cons_zero, List.set_cons_succ]
        refine handTake 13 (some 65) ?_ rfl rfl (by kernel_rfl) (by kernel_rfl) (by kernel_rfl) (fun _ _ _ h => h) (by rfl) ?_ HS ?_
        rotate_left
        · (intro u hu; (try dsimp only at hu); go_simp; try with_reducible rfl)
        simp only [Act.put, List.setIfInBounds_toArray, List.set_cons_zero, List.set_cons_succ]
        refine wpAnyH_ready (rs := [14]) (by kernel_rfl) (by simp) ?_
        refine AllReadyH.cons rfl (fun K hK => ?_) AllReadyH.nil
        go_simp
        clear HS
        refine hK.out _ _ (SOF.out _ ⟨(Known.add ((K_m.out.alloc _).drew) (Known.nil _)), ((KB.out.alloc (by first | omega | (simp; done) | (simp; omega) | (simp at *; omega)) _).drew)⟩) (fun HS => ?_)
        clear hK
        try simp only [Act.put, List.setIfInBounds_toArray, List.set_cons_zero, List.set_cons_succ]
        refine wpAnyH_ready (rs := [15]) (by kernel_rfl) (by simp) ?_
        refine AllReadyH.cons rfl (fun K hK => ?_) AllReadyH.nil
        clear HS
        refine step_append_row _ rfl (.tmp 52) (.tmp 66) _ (by rfl) W3.heap.size 23 i0 _ 2 16 Try.underlying24 hi hz0 hz1 hz2 rfl (by decide) _ (2 * k) (tw.flatMap Ba.cells) (by rfl) (own_drew (K_tw.out.alloc _)) (u5.heap.size + 1) _ 2 [.int .i64 aj.r, .int .i64 aj.p, .int .i64 ak.r, .int .i64 ak.p] (by rfl) (Row.blk ((Whole.new _ 23 _).drew) rfl (by omega) (by unfold maxLen; omega)) rfl HF1.out (by unfold maxLen; omega) (by omega) (by first | omega | (simp; done) | (simp; omega) | (simp at *; omega)) ?_
        intro v9 w9 H_tw hb
        have H_m : Whole w9 (u2.heap.size) 23 _ := Whole.below ((K_m.out.alloc _).drew) hb (by first | omega | (simp; done) | (simp; omega) | (simp at *; omega))
        have H_BR := ((K_BR.out.alloc (by first | omega | (simp; done) | (simp; omega) | (simp at *; omega)) _).drew).trans (hb.mono (by first | omega | (simp; done) | (simp; omega) | (simp at *; omega)))
        have HB := ((KB.out.alloc (by first | omega | (simp; done) | (simp; omega) | (simp at *; omega)) _).drew).trans (hb.mono (by first | omega | (simp; done) | (simp; omega) | (simp at *; omega)))
        clear c_m_0 c_m_1 f_m_0 f_m_1
        clear hb KB K_m K_tw K_BR
        have z_w9 := HB.size
        have z_BR_w9 := H_BR.size
        have c_m_0 := H_m.cell 0; have f_m_0 := H_m.free 0; have c_m_1 := H_m.cell 1; have f_m_1 := H_m.free 1
        simp only [List.set_cons_zero, List.set_cons_succ, List.getElem?_cons_zero, List.getElem?_cons_succ] at c_m_0 c_m_1
        have l_m := H_m.lt; have K_m := Lib.hid H_m; clear H_m
        have K_tw := Lib.hid H_tw; clear H_tw
        have K_BR := Lib.hid H_BR; clear H_BR
        have KB := Lib.hid HB; clear HB
        refine hK.out _ _ (SOF.out _ ⟨(Known.add K_m.out (Known.nil _)), KB.out⟩) (fun HS => ?_)
        clear hK
        try simp only [Act.put, List.setIfInBounds_toArray, List.set_cons_zero, List.set_cons_succ]
        refine handTake 16 (some 5) ?_ rfl rfl (by kernel_rfl) (by kernel_rfl) (by kernel_rfl) (fun _ _ _ h => h) (by rfl) ?_ HS ?_
        rotate_left
        · (intro u hu; (try dsimp only at hu); go_simp; try with_reducible rfl)
        simp only [Act.put, List.setIfInBounds_toArray, List.set_cons_zero, List.set_cons_succ]
        refine wpAnyH_done (by kernel_rfl) ?_ _
        clear HS SOF
        go_wp2_with fail
        go_roundw
        case rel => exact ⟨k + 1, tw ++ [aj, ak], by omega, by go_num, by first | (rw [hany'.out]; done) | (rw [hany'.out]; simp), HTL.out, HT1.out, HT2.out, by rw [HFL.out]; exact K_tw.out, K_BR.out⟩
        case measure => simp [intOf]; omega
      · have hany' := Lib.hid hany; clear hany
        clear c_m_0 c_m_1 f_m_0 f_m_1 l_m K_m KB
        have z_BR_wr := H_BR.size
        have z_wr := HB.size
        have c_m_0 := H_m.cell 0; have f_m_0 := H_m.free 0; have c_m_1 := H_m.cell 1; have f_m_1 := H_m.free 1
        simp only [List.set_cons_zero, List.set_cons_succ, List.getElem?_cons_zero, List.getElem?_cons_succ] at c_m_0 c_m_1
        have l_m := H_m.lt; have K_m := Lib.hid H_m; clear H_m
        have K_tw := Lib.hid H_tw; clear H_tw
        have K_BR := Lib.hid H_BR; clear H_BR
        have KB := Lib.hid HB; clear HB
        go_wp2_with fail
        have SOF : Hid (∀ u : World, Hid (Known u [(u2.heap.size, 23, [.int .i64 mr, .int .i64 mp])] ∧ Below w.heap.size w u) → (fun u : World => (u.cell? ⟨u2.heap.size, 0, none⟩ = some (.int .i64 mr) ∧ u.cell? ⟨u2.heap.size, 1, none⟩ = some (.int .i64 mp) ∧ u.cell? ⟨b2, o2 + k * 2, none⟩ = some (.int .i64 ak.r) ∧ u.cell? ⟨b2, o2 + k * 2 + 1, none⟩ = some (.int .i64 ak.p)) ∧ Hid (Known u [(u2.heap.size, 23, [.int .i64 mr, .int .i64 mp])] ∧ Below w.heap.size w u)) u) := fun u h => ⟨⟨(h.out.1.head.cell 0), (h.out.1.head.cell 1), ((h.out.2.cell (p := ⟨b2, o2 + k * 2, none⟩) hb2).trans x0), ((h.out.2.cell (p := ⟨b2, o2 + k * 2 + 1, none⟩) hb2).trans x1)⟩, h⟩
        refine wp_region_held_drew (S := (fun u : World => (u.cell? ⟨u2.heap.size, 0, none⟩ = some (.int .i64 mr) ∧ u.cell? ⟨u2.heap.size, 1, none⟩ = some (.int .i64 mp) ∧ u.cell? ⟨b2, o2 + k * 2, none⟩ = some (.int .i64 ak.r) ∧ u.cell? ⟨b2, o2 + k * 2 + 1, none⟩ = some (.int .i64 ak.p)) ∧ Hid (Known u [(u2.heap.size, 23, [.int .i64 mr, .int .i64 mp])] ∧ Below w.heap.size w u))) (by kernel_rfl) (SOF.out _ ⟨(Known.add (K_m.out.drew) (Known.nil _)), (KB.out.drew)⟩) (fun HS => ?_)
        refine handTake 0 (some 37) ?_ rfl rfl (by kernel_rfl) (by kernel_rfl) (by kernel_rfl) (fun _ _ _ h => h) (by rfl) ?_ HS ?_
        rotate_left
        · (intro u hu; (try dsimp only at hu); go_simp; try with_reducible rfl)
        simp only [Act.put, List.setIfInBounds_toArray, List.set_cons_zero, List.set_cons_succ]
        refine handTake 1 (some 38) ?_ rfl rfl (by kernel_rfl) (by kernel_rfl) (by kernel_rfl) (fun _ _ _ h => h) (by rfl) ?_ HS ?_
        rotate_left
        · (intro u hu; (try dsimp only at hu); go_simp; try with_reducible rfl)
        simp only [Act.put, List.setIfInBounds_toArray, List.set_cons_zero, List.set_cons_succ]
        refine handSkip 2 (some 39) rfl rfl (by kernel_rfl) (by kernel_rfl) (by kernel_rfl) (fun _ _ _ h => h) (by rfl) HS ?_
        simp only [Act.put, List.setIfInBounds_toArray, List.set_cons_zero, List.set_cons_succ]
        refine handSkip 3 (some 40) rfl rfl (by kernel_rfl) (by kernel_rfl) (by kernel_rfl) (fun _ _ _ h => h) (by rfl) HS ?_
        simp only [Act.put, List.setIfInBounds_toArray, List.set_cons_zero, List.set_cons_succ]
        refine handSkip 4 (some 41) rfl rfl (by kernel_rfl) (by kernel_rfl) (by kernel_rfl) (fun _ _ _ h => h) (by rfl) HS ?_
        simp only [Act.put, List.setIfInBounds_toArray, List.set_cons_zero, List.set_cons_succ]
        refine handSkip 5 (some 42) rfl rfl (by kernel_rfl) (by kernel_rfl) (by kernel_rfl) (fun _ _ _ h => h) (by rfl) HS ?_
        simp only [Act.put, List.setIfInBounds_toArray, List.set_cons_zero, List.set_cons_succ]
        refine handSkip 6 (some 43) rfl rfl (by kernel_rfl) (by kernel_rfl) (by kernel_rfl) (fun _ _ _ h => h) (by rfl) HS ?_
        simp only [Act.put, List.setIfInBounds_toArray, List.set_cons_zero, List.set_cons_succ]
        refine handSkip 7 (some 44) rfl rfl (by kernel_rfl) (by kernel_rfl) (by kernel_rfl) (fun _ _ _ h => h) (by rfl) HS ?_
        simp only [Act.put, List.setIfInBounds_toArray, List.set_cons_zero, List.set_cons_succ]
        refine handTake 8 (some 45) ?_ rfl rfl (by kernel_rfl) (by kernel_rfl) (by kernel_rfl) (fun _ _ _ h => h) (by rfl) ?_ HS ?_
        rotate_left
        · (intro u hu; (try dsimp only at hu); go_simp; try with_reducible rfl)
        simp only [Act.put, List.setIfInBounds_toArray, List.set_cons_zero, List.set_cons_succ]
        refine handTake 9 (some 7) ?_ rfl rfl (by kernel_rfl) (by kernel_rfl) (by kernel_rfl) (fun _ _ _ h => h) (by rfl) ?_ HS ?_
        rotate_left
        · (intro u hu; (try dsimp only at hu); go_simp; try with_reducible rfl)
        simp only [Act.put, List.setIfInBounds_toArray, List.set_cons_zero, List.set_cons_succ]
        refine wpAnyH_done (by kernel_rfl) ?_ _
        clear HS SOF
        go_wp2_with fail
        obtain ⟨W4, hW⟩ : ∃ W : World, W = wr.drew := ⟨_, rfl⟩
        have H_m : Whole W4 (u2.heap.size) 23 [.int .i64 mr, .int .i64 mp] := by rw [hW]; exact (K_m.out.drew)
        have H_tw := own_at hW (own_drew K_tw.out)
        have H_BR : Below W3.heap.size W3 W4 := by rw [hW]; exact (K_BR.out.drew)
        have HB : Below w.heap.size w W4 := by rw [hW]; exact (KB.out.drew)
        rw [← hW]
        clear c_m_0 c_m_1 f_m_0 f_m_1 l_m
        clear hW KB K_m K_tw K_BR
        have z_W4 := HB.size
        have z_BR_W4 := H_BR.size
        have c_m_0 := H_m.cell 0; have f_m_0 := H_m.free 0; have c_m_1 := H_m.cell 1; have f_m_1 := H_m.free 1
        simp only [List.set_cons_zero, List.set_cons_succ, List.getElem?_cons_zero, List.getElem?_cons_succ] at c_m_0 c_m_1
        have l_m := H_m.lt; have K_m := Lib.hid H_m; clear H_m
        have K_tw := Lib.hid H_tw; clear H_tw
        have K_BR := Lib.hid H_BR; clear H_BR
        have KB := Lib.hid HB; clear HB
        have SOF : Hid (∀ u : World, Hid (Known u [(u2.heap.size, 23, [.int .i64 mr, .int .i64 mp])] ∧ Below w.heap.size w u) → (fun u : World => (u.cell? ⟨u2.heap.size, 0, none⟩ = some (.int .i64 mr) ∧ u.cell? ⟨u2.heap.size, 1, none⟩ = some (.int .i64 mp) ∧ u.cell? ⟨b2, o2 + k * 2, none⟩ = some (.int .i64 ak.r) ∧ u.cell? ⟨b2, o2 + k * 2 + 1, none⟩ = some (.int .i64 ak.p)) ∧ Hid (Known u [(u2.heap.size, 23, [.int .i64 mr, .int .i64 mp])] ∧ Below w.heap.size w u)) u) := fun u h => ⟨⟨(h.out.1.head.cell 0), (h.out.1.head.cell 1), ((h.out.2.cell (p := ⟨b2, o2 + k * 2, none⟩) hb2).trans x0), ((h.out.2.cell (p := ⟨b2, o2 + k * 2 + 1, none⟩) hb2).trans x1)⟩, h⟩
        refine wp_region_held_drew (S := (fun u : World => (u.cell? ⟨u2.heap.size, 0, none⟩ = some (.int .i64 mr) ∧ u.cell? ⟨u2.heap.size, 1, none⟩ = some (.int .i64 mp) ∧ u.cell? ⟨b2, o2 + k * 2, none⟩ = some (.int .i64 ak.r) ∧ u.cell? ⟨b2, o2 + k * 2 + 1, none⟩ = some (.int .i64 ak.p)) ∧ Hid (Known u [(u2.heap.size, 23, [.int .i64 mr, .int .i64 mp])] ∧ Below w.heap.size w u))) (by kernel_rfl) (SOF.out _ ⟨(Known.add (K_m.out.drew) (Known.nil _)), (KB.out.drew)⟩) (fun HS => ?_)
        refine handTake 0 (some 46) ?_ rfl rfl (by kernel_rfl) (by kernel_rfl) (by kernel_rfl) (fun _ _ _ h => h) (by rfl) ?_ HS ?_
        rotate_left
        · (intro u hu; (try dsimp only at hu); go_simp; try with_reducible rfl)
        simp only [Act.put, List.setIfInBounds_toArray, List.set_cons_zero, List.set_cons_succ]
        refine handTake 1 (some 47) ?_ rfl rfl (by kernel_rfl) (by kernel_rfl) (by kernel_rfl) (fun _ _ _ h => h) (by rfl) ?_ HS ?_
        rotate_left
        · (intro u hu; (try dsimp only at hu); go_simp; try with_reducible rfl)
        simp only [Act.put, List.setIfInBounds_toArray, List.set_cons_zero, List.set_cons_succ]
        refine handTake 2 (some 48) ?_ rfl rfl (by kernel_rfl) (by kernel_rfl) (by kernel_rfl) (fun _ _ _ h => h) (by rfl) ?_ HS ?_
        rotate_left
        · (intro u hu; (try dsimp only at hu); go_simp; try with_reducible rfl)
        simp only [Act.put, List.setIfInBounds_toArray, List.set_cons_zero, List.set_cons_succ]
        refine handTake 3 (some 49) ?_ rfl rfl (by kernel_rfl) (by kernel_rfl) (by kernel_rfl) (fun _ _ _ h => h) (by rfl) ?_ HS ?_
        rotate_left
        · (intro u hu; (try dsimp only at hu); go_simp; try with_reducible rfl)
        simp only [Act.put, List.setIfInBounds_toArray, List.set_cons_zero, List.set_cons_succ]
        refine handTake 4 (some 50) ?_ rfl rfl (by kernel_rfl) (by kernel_rfl) (by kernel_rfl) (fun _ _ _ h => h) (by rfl) ?_ HS ?_
        rotate_left
        · (intro u hu; (try dsimp only at hu); go_simp; try with_reducible rfl)
        simp only [Act.put, List.setIfInBounds_toArray, List.set_cons_zero, List.set_cons_succ]
        refine wpAnyH_ready (rs := [5]) (by kernel_rfl) (by simp) ?_
        refine AllReadyH.cons rfl (fun K hK => ?_) AllReadyH.nil
        go_simp
        clear HS
        refine (L1.out _).mono ?_
        rintro e5 u5 ⟨rfl, hb⟩
        have H_m : Whole u5 (u2.heap.size) 23 _ := Whole.below (K_m.out.drew) hb (by first | omega | (simp; done) | (simp; omega) | (simp at *; omega))
        have H_tw := own_below (own_drew K_tw.out) hb
        have H_BR := (K_BR.out.drew).trans (hb.mono (by first | omega | (simp; done) | (simp; omega) | (simp at *; omega)))
        have HB := (KB.out.drew).trans (hb.mono (by first | omega | (simp; done) | (simp; omega) | (simp at *; omega)))
        clear c_m_0 c_m_1 f_m_0 f_m_1 l_m
        clear hb KB K_m K_tw K_BR
        have z_u5 := HB.size
        have z_BR_u5 := H_BR.size
        have c_m_0 := H_m.cell 0; have f_m_0 := H_m.free 0; have c_m_1 := H_m.cell 1; have f_m_1 := H_m.free 1
        simp only [List.set_cons_zero, List.set_cons_succ, List.getElem?_cons_zero, List.getElem?_cons_succ] at c_m_0 c_m_1
        have l_m := H_m.lt; have K_m := Lib.hid H_m; clear H_m
        have K_tw := Lib.hid H_tw; clear H_tw
        have K_BR := Lib.hid H_BR; clear H_BR
        have KB := Lib.hid HB; clear HB
        have HS' := Lib.hid (SOF.out _ ⟨(Known.add K_m.out (Known.nil _)), KB.out⟩)
        go_wp2_with fail
        refine hK.out _ _ HS'.out (fun HS => ?_)
        clear hK HS'
        try simp only [Act.put, List.setIfInBounds_toArray, List.set_cons_zero, List.set_cons_succ]
        refine wpAnyH_done (by kernel_rfl) ?_ _
        clear HS SOF
        go_wp2_with fail
        have SOF : Hid (∀ u : World, Hid (Known u [(u2.heap.size, 23, [.int .i64 mr, .int .i64 mp])] ∧ Below w.heap.size w u) → (fun u : World => (u.cell? ⟨u2.heap.size, 0, none⟩ = some (.int .i64 mr) ∧ u.cell? ⟨u2.heap.size, 1, none⟩ = some (.int .i64 mp) ∧ u.cell? ⟨b2, o2 + k * 2, none⟩ = some (.int .i64 ak.r) ∧ u.cell? ⟨b2, o2 + k * 2 + 1, none⟩ = some (.int .i64 ak.p) ∧ u.cell? ⟨b2, o2 + j * 2, none⟩ = some (.int .i64 aj.r) ∧ u.cell? ⟨b2, o2 + j * 2 + 1, none⟩ = some (.int .i64 aj.p)) ∧ Hid (Known u [(u2.heap.size, 23, [.int .i64 mr, .int .i64 mp])] ∧ Below w.heap.size w u)) u) := fun u h => ⟨⟨(h.out.1.head.cell 0), (h.out.1.head.cell 1), ((h.out.2.cell (p := ⟨b2, o2 + k * 2, none⟩) hb2).trans x0), ((h.out.2.cell (p := ⟨b2, o2 + k * 2 + 1, none⟩) hb2).trans x1), ((h.out.2.cell (p := ⟨b2, o2 + j * 2, none⟩) hb2).trans y0), ((h.out.2.cell (p := ⟨b2, o2 + j * 2 + 1, none⟩) hb2).trans y1)⟩, h⟩
        refine wp_region_held_drew (S := (fun u : World => (u.cell? ⟨u2.heap.size, 0, none⟩ = some (.int .i64 mr) ∧ u.cell? ⟨u2.heap.size, 1, none⟩ = some (.int .i64 mp) ∧ u.cell? ⟨b2, o2 + k * 2, none⟩ = some (.int .i64 ak.r) ∧ u.cell? ⟨b2, o2 + k * 2 + 1, none⟩ = some (.int .i64 ak.p) ∧ u.cell? ⟨b2, o2 + j * 2, none⟩ = some (.int .i64 aj.r) ∧ u.cell? ⟨b2, o2 + j * 2 + 1, none⟩ = some (.int .i64 aj.p)) ∧ Hid (Known u [(u2.heap.size, 23, [.int .i64 mr, .int .i64 mp])] ∧ Below w.heap.size w u))) (by kernel_rfl) (SOF.out _ ⟨(Known.add (K_m.out.drew) (Known.nil _)), (KB.out.drew)⟩) (fun HS => ?_)
        refine handTake 0 (some 52) ?_ rfl rfl (by kernel_rfl) (by kernel_rfl) (by kernel_rfl) (fun _ _ _ h => h) (by rfl) ?_ HS ?_
        rotate_left
        · (intro u hu; (try dsimp only at hu); go_simp; try with_reducible rfl)
        simp only [Act.put, List.setIfInBounds_toArray, List.set_cons_zero, List.set_cons_succ]
        refine handTake 1 (some 53) ?_ rfl rfl (by kernel_rfl) (by kernel_rfl) (by kernel_rfl) (fun _ _ _ h => h) (by rfl) ?_ HS ?_
        rotate_left
        · (intro u hu; (try dsimp only at hu); go_simp; try with_reducible rfl)
        simp only [Act.put, List.setIfInBounds_toArray, List.set_cons_zero, List.set_cons_succ]
        refine handTake 2 (some 54) ?_ rfl rfl (by kernel_rfl) (by kernel_rfl) (by kernel_rfl) (fun _ _ _ h => h) (by rfl) ?_ HS ?_
        rotate_left
        · (intro u hu; (try dsimp only at hu); go_simp; try with_reducible rfl)
        simp only [Act.put, List.setIfInBounds_toArray, List.set_cons_zero, List.set_cons_succ]
        refine handTake 3 (some 55) ?_ rfl rfl (by kernel_rfl) (by kernel_rfl) (by kernel_rfl) (fun _ _ _ h => h) (by rfl) ?_ HS ?_
        rotate_left
        · (intro u hu; (try dsimp only at hu); go_simp; try with_reducible rfl)
        simp only [Act.put, List.setIfInBounds_toArray, List.set_cons_zero, List.set_cons_succ]
        refine handTake 4 (some 56) ?_ rfl rfl (by kernel_rfl) (by kernel_rfl) (by kernel_rfl) (fun _ _ _ h => h) (by rfl) ?_ HS ?_
        rotate_left
        · (intro u hu; (try dsimp only at hu); go_simp; try with_reducible rfl)
        simp only [Act.put, List.setIfInBounds_toArray, List.set_cons_zero, List.set_cons_succ]
        refine handTake 5 (some 57) ?_ rfl rfl (by kernel_rfl) (by kernel_rfl) (by kernel_rfl) (fun _ _ _ h => h) (by rfl) ?_ HS ?_
        rotate_left
        · (intro u hu; (try dsimp only at hu); go_simp; try with_reducible rfl)
        simp only [Act.put, List.setIfInBounds_toArray, List.set_cons_zero, List.set_cons_succ]
        refine handTake 6 (some 58) ?_ rfl rfl (by kernel_rfl) (by kernel_rfl) (by kernel_rfl) (fun _ _ _ h => h) (by rfl) ?_ HS ?_
        rotate_left
        · (intro u hu; (try dsimp only at hu); go_simp; try with_reducible rfl)
        simp only [Act.put, List.setIfInBounds_toArray, List.set_cons_zero, List.set_cons_succ]
        refine handTake 7 (some 59) ?_ rfl rfl (by kernel_rfl) (by kernel_rfl) (by kernel_rfl) (fun _ _ _ h => h) (by rfl) ?_ HS ?_
        rotate_left
        · (intro u hu; (try dsimp only at hu); go_simp; try with_reducible rfl)
        simp only [Act.put, List.setIfInBounds_toArray, List.set_cons_zero, List.set_cons_succ]
        refine handTake 8 (some 60) ?_ rfl rfl (by kernel_rfl) (by kernel_rfl) (by kernel_rfl) (fun _ _ _ h => h) (by rfl) ?_ HS ?_
        rotate_left
        · (intro u hu; (try dsimp only at hu); go_simp; try with_reducible rfl)
        simp only [Act.put, List.setIfInBounds_toArray, List.set_cons_zero, List.set_cons_succ]
        refine handTake 9 (some 61) ?_ rfl rfl (by kernel_rfl) (by kernel_rfl) (by kernel_rfl) (fun _ _ _ h => h) (by rfl) ?_ HS ?_
        rotate_left
        · (intro u hu; (try dsimp only at hu); go_simp; try with_reducible rfl)
        simp only [Act.put, List.setIfInBounds_toArray, List.set_cons_zero, List.set_cons_succ]
        refine handTake 10 (some 62) ?_ rfl rfl (by kernel_rfl) (by kernel_rfl) (by kernel_rfl) (fun _ _ _ h => h) (by rfl) ?_ HS ?_
        rotate_left
        · (intro u hu; (try dsimp only at hu); go_simp; try with_reducible rfl)
        simp only [Act.put, List.setIfInBounds_toArray, List.set_cons_zero, List.set_cons_succ]
        refine handTake 11 (some 63) ?_ rfl rfl (by kernel_rfl) (by kernel_rfl) (by kernel_rfl) (fun _ _ _ h => h) (by rfl) ?_ HS ?_
        rotate_left
        · (intro u hu; (try dsimp only at hu); go_simp; try with_reducible rfl)
        simp only [Act.put, List.setIfInBounds_toArray, List.set_cons_zero, List.set_cons_succ]
        refine handTake 12 (some 64) ?_ rfl rfl (by kernel_rfl) (by kernel_rfl) (by kernel_rfl) (fun _ _ _ h => h) (by rfl) ?_ HS ?_
        rotate_left
        · (intro u hu; (try dsimp only at hu); go_simp; try with_reducible rfl)
        simp only [Act.put, List.setIfInBounds_toArray, List.set_cons_zero, List.set_cons_succ]
        refine handTake 13 (some 65) ?_ rfl rfl (by kernel_rfl) (by kernel_rfl) (by kernel_rfl) (fun _ _ _ h => h) (by rfl) ?_ HS ?_
        rotate_left
        · (intro u hu; (try dsimp only at hu); go_simp; try with_reducible rfl)
        simp only [Act.put, List.setIfInBounds_toArray, List.set_cons_zero, List.set_cons_succ]
        refine wpAnyH_ready (rs := [14]) (by kernel_rfl) (by simp) ?_
        refine AllReadyH.cons rfl (fun K hK => ?_) AllReadyH.nil
        go_simp
        clear HS
        refine hK.out _ _ (SOF.out _ ⟨(Known.add ((K_m.out.alloc _).drew) (Known.nil _)), ((KB.out.alloc (by first | omega | (simp; done) | (simp; omega) | (simp at *; omega)) _).drew)⟩) (fun HS => ?_)
        clear hK
        try simp only [Act.put, List.setIfInBounds_toArray, List.set_cons_zero, List.set_cons_succ]
        refine wpAnyH_ready (rs := [15]) (by kernel_rfl) (by simp) ?_
        refine AllReadyH.cons rfl (fun K hK => ?_) AllReadyH.nil
        clear HS
        refine step_append_row _ rfl (.tmp 52) (.tmp 66) _ (by rfl) W3.heap.size 23 i0 _ 2 16 Try.underlying24 hi hz0 hz1 hz2 rfl (by decide) _ (2 * k) (tw.flatMap Ba.cells) (by rfl) (own_drew (K_tw.out.alloc _)) (u5.heap.size + 1) _ 2 [.int .i64 aj.r, .int .i64 aj.p, .int .i64 ak.r, .int .i64 ak.p] (by rfl) (Row.blk ((Whole.new _ 23 _).drew) rfl (by omega) (by unfold maxLen; omega)) rfl HF1.out (by unfold maxLen; omega) (by omega) (by first | omega | (simp; done) | (simp; omega) | (simp at *; omega)) ?_
        intro v9 w9 H_tw hb
        have H_m : Whole w9 (u2.heap.size) 23 _ := Whole.below ((K_m.out.alloc _).drew) hb (by first | omega | (simp; done) | (simp; omega) | (simp at *; omega))
        have H_BR := ((K_BR.out.alloc (by first | omega | (simp; done) | (simp; omega) | (simp at *; omega)) _).drew).trans (hb.mono (by first | omega | (simp; done) | (simp; omega) | (simp at *; omega)))
        have HB := ((KB.out.alloc (by first | omega | (simp; done) | (simp; omega) | (simp at *; omega)) _).drew).trans (hb.mono (by first | omega | (simp; done) | (simp; omega) | (simp at *; omega)))
        clear c_m_0 c_m_1 f_m_0 f_m_1
        clear hb KB K_m K_tw K_BR
        have z_w9 := HB.size
        have z_BR_w9 := H_BR.size
        have c_m_0 := H_m.cell 0; have f_m_0 := H_m.free 0; have c_m_1 := H_m.cell 1; have f_m_1 := H_m.free 1
        simp only [List.set_cons_zero, List.set_cons_succ, List.getElem?_cons_zero, List.getElem?_cons_succ] at c_m_0 c_m_1
        have l_m := H_m.lt; have K_m := Lib.hid H_m; clear H_m
        have K_tw := Lib.hid H_tw; clear H_tw
        have K_BR := Lib.hid H_BR; clear H_BR
        have KB := Lib.hid HB; clear HB
        refine hK.out _ _ (SOF.out _ ⟨(Known.add K_m.out (Known.nil _)), KB.out⟩) (fun HS => ?_)
        clear hK
        try simp only [Act.put, List.setIfInBounds_toArray, List.set_cons_zero, List.set_cons_succ]
        refine handTake 16 (some 5) ?_ rfl rfl (by kernel_rfl) (by kernel_rfl) (by kernel_rfl) (fun _ _ _ h => h) (by rfl) ?_ HS ?_
        rotate_left
        · (intro u hu; (try dsimp only at hu); go_simp; try with_reducible rfl)
        simp only [Act.put, List.setIfInBounds_toArray, List.set_cons_zero, List.set_cons_succ]
        refine wpAnyH_done (by kernel_rfl) ?_ _
        clear HS SOF
        go_wp2_with fail
        go_roundw
        case rel => exact ⟨k + 1, tw ++ [aj, ak], by omega, by go_num, by first | (rw [hany'.out]; done) | (rw [hany'.out]; simp), HTL.out, HT1.out, HT2.out, by rw [HFL.out]; exact K_tw.out, K_BR.out⟩
        case measure => simp [intOf]; omega
    · have e : k = l.length := by omega
      subst e
      rw [List.take_length]
      have hall := T2.out
      rw [List.take_length] at hall
      have hmx : maxL tw = ⟨mr, mp⟩ := by
        refine HI.out _ _ (hall _ ?_) fun x hx => ?_
        · have := HM.out; rwa [HX.out] at this
        · have := HG.out _ (T1.out x hx); rwa [HX.out] at this
      have hany : l.any (fun x => sameB x ⟨mr, mp⟩) = true := by
        refine List.any_eq_true.2 ⟨⟨mr, mp⟩, ?_, same_self _⟩
        have := HM.out; rwa [HX.out] at this
      rw [hany]
      clear hany hall T1 T2
      rw [← htl] at H_tw
      have MX := Lib.hid (max_lit tw)
      rw [hmx] at MX
      clear hmx htl TL
      have s1 : sameB ⟨mr, mp⟩ ⟨mr, mp⟩ = true := same_self _
      have HRW := Lib.hid (Row.of_own H_tw)
      obtain ⟨A1, c1, rfl, hn1, hc1⟩ := HRW.out.slice
      clear H_tw H_BR
      clear c_m_0 c_m_1 f_m_0 f_m_1 l_m K_m KB
      have z_wr := HB.size
      have c_m_0 := H_m.cell 0; have f_m_0 := H_m.free 0; have c_m_1 := H_m.cell 1; have f_m_1 := H_m.free 1
      simp only [List.set_cons_zero, List.set_cons_succ, List.getElem?_cons_zero, List.getElem?_cons_succ] at c_m_0 c_m_1
      have l_m := H_m.lt; have K_m := Lib.hid H_m; clear H_m
      have KB := Lib.hid HB; clear HB
      go_wp2_with fail
      have SOF : Hid (∀ u : World, Hid (Known u [(u2.heap.size, 23, [.int .i64 mr, .int .i64 mp])] ∧ Below w.heap.size w u) → (fun u : World => (u.cell? ⟨u2.heap.size, 0, none⟩ = some (.int .i64 mr) ∧ u.cell? ⟨u2.heap.size, 1, none⟩ = some (.int .i64 mp)) ∧ Hid (Known u [(u2.heap.size, 23, [.int .i64 mr, .int .i64 mp])] ∧ Below w.heap.size w u)) u) := fun u h => ⟨⟨(h.out.1.head.cell 0), (h.out.1.head.cell 1)⟩, h⟩
      refine wp_region_held_drew (S := (fun u : World => (u.cell? ⟨u2.heap.size, 0, none⟩ = some (.int .i64 mr) ∧ u.cell? ⟨u2.heap.size, 1, none⟩ = some (.int .i64 mp)) ∧ Hid (Known u [(u2.heap.size, 23, [.int .i64 mr, .int .i64 mp])] ∧ Below w.heap.size w u))) (by kernel_rfl) (SOF.out _ ⟨(Known.add (K_m.out.drew) (Known.nil _)), (KB.out.drew)⟩) (fun HS => ?_)
      refine handTake 0 (some 68) ?_ rfl rfl (by kernel_rfl) (by kernel_rfl) (by kernel_rfl) (fun _ _ _ h => h) (by rfl) ?_ HS ?_
      rotate_left
      · (intro u hu; (try dsimp only at hu); go_simp; try with_reducible rfl)
      simp only [Act.put, List.setIfInBounds_toArray, List.set_cons_zero, List.set_cons_succ]
      refine handTake 1 (some 69) ?_ rfl rfl (by kernel_rfl) (by kernel_rfl) (by kernel_rfl) (fun _ _ _ h => h) (by rfl) ?_ HS ?_
      rotate_left
      · (intro u hu; (try dsimp only at hu); go_simp; try with_reducible rfl)
      simp only [Act.put, List.setIfInBounds_toArray, List.set_cons_zero, List.set_cons_succ]
      refine handTake 2 (some 70) ?_ rfl rfl (by kernel_rfl) (by kernel_rfl) (by kernel_rfl) (fun _ _ _ h => h) (by rfl) ?_ HS ?_
      rotate_left
      · (intro u hu; (try dsimp only at hu); go_simp; try with_reducible rfl)
      simp only [Act.put, List.setIfInBounds_toArray, List.set_cons_zero, List.set_cons_succ]
      refine handTake 4 (some 72) ?_ rfl rfl (by kernel_rfl) (by kernel_rfl) (by kernel_rfl) (fun _ _ _ h => h) (by rfl) ?_ HS ?_
      rotate_left
      · (intro u hu; (try dsimp only at hu); go_simp; try with_reducible rfl)
      simp only [Act.put, List.setIfInBounds_toArray, List.set_cons_zero, List.set_cons_succ]
      refine wpAnyH_ready (rs := [3]) (by kernel_rfl) (by simp) ?_
      refine AllReadyH.cons rfl (fun K hK => ?_) AllReadyH.nil
      go_simp
      clear HS
      refine (MX.out _ _ ((HRW.out.drew).more (by first | omega | (simp; done) | (simp; omega) | (simp at *; omega)))).mono ?_
      rintro e4 u4 ⟨rfl, hb⟩
      have H_m : Whole u4 (u2.heap.size) 23 _ := Whole.below (K_m.out.drew) hb (by first | omega | (simp; done) | (simp; omega) | (simp at *; omega))
      have HB := (KB.out.drew).trans (hb.mono (by first | omega | (simp; done) | (simp; omega) | (simp at *; omega)))
      clear c_m_0 c_m_1 f_m_0 f_m_1 l_m
      clear hb KB K_m
      have z_u4 := HB.size
      have c_m_0 := H_m.cell 0; have f_m_0 := H_m.free 0; have c_m_1 := H_m.cell 1; have f_m_1 := H_m.free 1
      simp only [List.set_cons_zero, List.set_cons_succ, List.getElem?_cons_zero, List.getElem?_cons_succ] at c_m_0 c_m_1
      have l_m := H_m.lt; have K_m := Lib.hid H_m; clear H_m
      have KB := Lib.hid HB; clear HB
      have HS' := Lib.hid (SOF.out _ ⟨(Known.add K_m.out (Known.nil _)), KB.out⟩)
      go_wp2_with fail
      refine hK.out _ _ HS'.out (fun HS => ?_)
      clear hK HS'
      try simp only [Act.put, List.setIfInBounds_toArray, List.set_cons_zero, List.set_cons_succ]
      refine handTake 5 (some 73) ?_ rfl rfl (by kernel_rfl) (by kernel_rfl) (by kernel_rfl) (fun _ _ _ h => h) (by rfl) ?_ HS ?_
      rotate_left
      · (intro u hu; (try dsimp only at hu); go_simp; try with_reducible rfl)
      simp only [Act.put, List.setIfInBounds_toArray, List.set_cons_zero, List.set_cons_succ]
      refine handTake 6 (some 74) ?_ rfl rfl (by kernel_rfl) (by kernel_rfl) (by kernel_rfl) (fun _ _ _ h => h) (by rfl) ?_ HS ?_
      rotate_left
      · (intro u hu; (try dsimp only at hu); go_simp; try with_reducible rfl)
      simp only [Act.put, List.setIfInBounds_toArray, List.set_cons_zero, List.set_cons_succ]
      refine handTake 7 (some 4) ?_ rfl rfl (by kernel_rfl) (by kernel_rfl) (by kernel_rfl) (fun _ _ _ h => h) (by rfl) ?_ HS ?_
      rotate_left
      · (intro u hu; (try dsimp only at hu); go_simp; try with_reducible rfl)
      simp only [Act.put, List.setIfInBounds_toArray, List.set_cons_zero, List.set_cons_succ]
      refine wpAnyH_done (by kernel_rfl) ?_ _
      clear HS SOF
      go_wp2_with fail
      go_ret
      exact ⟨by first | rfl | (simp; done), KB.out⟩


end Bl
end Go.Proofs.Ytilpclajkofgmaa
