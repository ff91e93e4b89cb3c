/- The law TallyPlays, walked. -/
import Derived.Test.YtmpcjiacgbcpdaaTallyEvery
import Derived.StillTailTactics
set_option linter.unusedSimpArgs false
set_option linter.unusedVariables false
namespace Go.Proofs.Ytmpcjiacgbcpdaa
open Go.RowKit
open Qm

namespace Ta

/-- An act: its kind, its slot, its replica. -/
abbrev TAct := Nat × Int × Int
def acf (a : TAct) : List Value := [.int .u8 (a.1 : Nat), .int .i64 a.2.1, .int .i64 a.2.2]
theorem acf_len (a : TAct) : (acf a).length = 3 := rfl
def actOk (a : TAct) : Prop := a.1 < 256 ∧ inI a.2.1

/-- Both tallies, the act, and all that was. -/
structure ST (w : World) (b g gr ab : Nat) (n : Int) (k : Nat) (i r : Int) (R S : Rows) (v : Value) (u : World) : Prop where
  t : TallyAt u g b n R
  m : RAtV u gr n S v
  a : Whole u ab 38 [.int .u8 (k : Nat), .int .i64 i, .int .i64 r]
  o : ∀ j, v.ownBlock = some j → j < ab ∨ ab < j
  below : Below w.heap.size w u
/-- The blocks' order. -/
def Ord (w : World) (b g gr ab : Nat) : Prop := w.heap.size ≤ b ∧ b < gr ∧ g < gr ∧ b ≠ g ∧ gr < ab ∧ w.heap.size ≤ gr
theorem ST.drew {w u : World} {b g gr ab : Nat} {n : Int} {k : Nat} {i r : Int} {R S : Rows} {v : Value} (h : ST w b g gr ab n k i r R S v u) : ST w b g gr ab n k i r R S v u.drew :=
  ⟨h.t.drew, ⟨h.m.1.drew, own_drew h.m.2⟩, h.a.drew, h.o, h.below.drew⟩
theorem ST.call {w u u' : World} {b g gr ab : Nat} {n : Int} {k : Nat} {i r : Int} {R S : Rows} {v : Value} (h : ST w b g gr ab n k i r R S v u) (hx : Below u.heap.size u u') : ST w b g gr ab n k i r R S v u' :=
  ⟨h.t.keep hx, ⟨h.m.1.below hx h.m.1.lt, own_below h.m.2 hx⟩, h.a.below hx h.a.lt, h.o, h.below.trans (hx.mono h.below.size)⟩
theorem ST.note {w u u' : World} {b g gr ab : Nat} {n : Int} {k : Nat} {i r : Int} {R R' S : Rows} {v : Value} (h : ST w b g gr ab n k i r R S v u) (ho : Ord w b g gr ab) (t' : TallyAt u' g b n R') (hO : Only b u u') : ST w b g gr ab n k i r R' S v u' := by
  obtain ⟨o1, o2, o3, o4, o5, o6⟩ := ho
  exact ⟨t', ⟨hO.whole h.m.1 (by omega), (Foot.of_only hO).own h.m.2 (fun i hi e => by have := own_lt h.m.2 hi; omega)⟩, hO.whole h.a (by omega), h.o, Only.below h.below hO h.below.size o1⟩
theorem ST.rnote {w u u' : World} {b g gr ab : Nat} {n : Int} {k : Nat} {i r : Int} {R S S' : Rows} {v : Value} (h : ST w b g gr ab n k i r R S v u) (ho : Ord w b g gr ab) (m' : RTo u u' gr n S' v) : ∃ v', ST w b g gr ab n k i r R S' v' u' := by
  obtain ⟨o1, o2, o3, o4, o5, o6⟩ := ho
  obtain ⟨v', hm, hf, hv⟩ := m'
  have hlt := h.m.1.lt
  have hal := h.a.lt
  have hB : Below gr u u' := hf.below (fun k hk => by
    rcases hk with rfl | hk
    · exact Nat.le_refl _
    · have := own_lt h.m.2 hk; omega) (by omega)
  refine ⟨v', h.t.below hB o3 o2, hm, hf.whole h.a ?_, ?_, h.below.trans (hB.mono o6)⟩
  · rintro (e | e)
    · omega
    · exact (h.o _ e).elim (by omega) (by omega)
  · intro j hj
    rcases hv with e | e
    · exact h.o j (e ▸ hj)
    · have := e j hj; omega
theorem ST.start {w u : World} {b g gr : Nat} {n : Int} (k : Nat) (i r : Int) {R : Rows} {v : Value} (t : TallyAt u g b n R) (m : RAtV u gr n R v) (hx : Below w.heap.size w u) :
    ST w b g gr u.heap.size n k i r R R v (u.alloc (.cells #[.int .u8 (k : Nat), .int .i64 i, .int .i64 r] 38)) :=
  ⟨t.alloc _, ⟨m.1.alloc _, m.2.alloc _⟩, Whole.new _ _ [.int .u8 (k : Nat), .int .i64 i, .int .i64 r], fun j hj => .inl (own_lt m.2 hj).2, hx.alloc hx.size _⟩

theorem ST.cells {w u : World} {b g gr ab : Nat} {n : Int} {k : Nat} {i r : Int} {R S : Rows} {v : Value} (h : ST w b g gr ab n k i r R S v u) : u.cell? ⟨ab, 1, none⟩ = some (.int .i64 i) ∧ u.cell? ⟨ab, 2, none⟩ = some (.int .i64 r) := ⟨h.a.cell 1, h.a.cell 2⟩

set_option maxRecDepth 100000 in
set_option maxHeartbeats 8000000 in
theorem tallyPlays_is (n : Int) (l : List TAct) (hok : ∀ a ∈ l, actOk a) (v : Value) (w : World) (hr : Row w w.heap.size v l.length (l.flatMap acf)) :
    Calls Try.prog 4 #[.int .i64 n, v] w fun e w' => e = .returned (.bool true) ∧ Below w.heap.size w w' := by
  obtain ⟨A, c, rfl, _, _⟩ := hr.slice
  have HR := Lib.hid hr
  have HOK := Lib.hid hok
  clear hr hok
  go_enter Try.func4, Try.ntmps4
  by_cases hl : (300 : Int) < (l.length : Int)
  · go_wp2_with fail
    go_ret
    exact ⟨rfl, Below.refl _ _⟩
  cases hc : crowdB n with
  | false =>
    have hm : mostN n = 0 := by
      rcases most_cases n with h | h | h | h
      · rw [h.1] at hc; cases hc
      · rw [h.1] at hc; cases hc
      · rw [h.1] at hc; cases hc
      · exact h.2.2.2
    have N1 := Lib.hid (new_bad n hm)
    have N2 := Lib.hid (rnew_bad n hc)
    go_wp2_with fail
    refine (N1.out _).mono ?_
    rintro e u ⟨rfl, rfl⟩
    go_wp2_with fail
    refine (N2.out _).mono ?_
    rintro e u ⟨rfl, rfl⟩
    go_wp2_with fail
    go_ret
    exact ⟨rfl, Below.refl _ _⟩
  | true =>
    have hn : n = 3 ∨ n = 5 ∨ n = 7 := by simpa [crowdB, or_assoc] using hc
    have hm : mostN n ≠ 0 := by rcases hn with rfl | rfl | rfl <;> decide
    have HN0 : Hid (n ≠ 0) := by show n ≠ 0; omega
    have HN7 : Hid (n ≤ 7) := by show n ≤ 7; omega
    have HMP : Hid (0 < mostN n) := by show 0 < mostN n; omega
    have N1 := Lib.hid (new_ok n hm)
    have N2 := Lib.hid (rnew_ok n hc)
    clear hn hm hc
    go_wp2_with fail
    refine (N1.out _).mono ?_
    rintro e u ⟨rfl, ht, hx⟩
    have HT := Lib.hid ht
    have HB := Lib.hid hx
    have hl1 := ht.1.lt
    clear ht hx
    go_wp2_with fail
    refine (N2.out _).mono ?_
    rintro e u1 ⟨rfl, ⟨v0, hm0⟩, hx⟩
    have HT1 := Lib.hid (HT.out.keep hx)
    have HM1 : Hid (RAtV u1 u.heap.size n [] v0) := hm0
    have HB1 := Lib.hid (HB.out.trans (hx.mono HB.out.size))
    clear hx hm0 HT HB N1 N2
    have hog : w.heap.size + 1 < u.heap.size := hl1
    generalize hgr : u.heap.size = gr at *
    clear hgr
    go_wp2_with fail
    go_loopw [8] (fun iv wr => ∃ (k : Nat) (R : Rows) (v : Value), k ≤ l.length ∧ iv = .int .i64 k ∧ Fit R ∧ TallyAt wr (w.heap.size + 1) w.heap.size n R ∧ RAtV wr gr n R v ∧ Below w.heap.size w wr) (fun iv _ => l.length - (intOf iv).toNat)
    case atStart => exact ⟨0, [], v0, Nat.zero_le _, rfl, fit_nil, HT1.out, HM1.out, HB1.out⟩
    case round =>
      obtain ⟨k, R, vr, hk, rfl, hfit, ht, hm, hx⟩ := hrel
      clear HT1 HM1 HB1
      have zs := hx.size
      by_cases hlt : k < l.length
      · have h2 := HR.out
        obtain ⟨b2, o2, rfl, hb2, hx2⟩ := h2.elem acf_len (by omega) hlt
        have x0 := (hx.cell (p := ⟨b2, o2 + (k * 3 + 0), none⟩) hb2).trans (hx2 0 _ rfl)
        have x1 := (hx.cell (p := ⟨b2, o2 + (k * 3 + 1), none⟩) hb2).trans (hx2 1 _ rfl)
        have x2 := (hx.cell (p := ⟨b2, o2 + (k * 3 + 2), none⟩) hb2).trans (hx2 2 _ rfl)
        simp only [Nat.add_zero] at x0
        rw [← Nat.add_assoc] at x1 x2
        have hin := HOK.out _ (List.getElem_mem hlt)
        clear hx2 h2
        generalize l[k] = a at *
        obtain ⟨kd, i, r⟩ := a
        obtain ⟨hkd, hi⟩ := hin
        have HI := Lib.hid hi
        dsimp only at x0 x1 x2 hkd
        have HS := Lib.hid (ST.start kd i r ht hm hx)
        have hlg : gr < wr.heap.size := hm.1.lt
        have HO : Hid (Ord w w.heap.size (w.heap.size + 1) gr wr.heap.size) := by refine ⟨?_, ?_, ?_, ?_, ?_, ?_⟩ <;> omega
        have HF := Lib.hid hfit
        clear hi ht hm hx hfit
        have hcells := HS.out.cells
        obtain ⟨c1, c2⟩ := hcells
        obtain h4 | h4 | h4 | h4 : (kd : Int) % 4 = 0 ∨ (kd : Int) % 4 = 1 ∨ (kd : Int) % 4 = 2 ∨ (kd : Int) % 4 = 3 := by omega
        · have m0 : ((kd : Int) % 4 == 0) = true := by rw [h4]; rfl
          have m1 : ((kd : Int) % 4 == 1) = false := by rw [h4]; rfl
          have m2 : ((kd : Int) % 4 == 2) = false := by rw [h4]; rfl
          have HA0 := HS
          clear HS
          go_wp2_with fail
          refine wp_region_held_drew (S := (fun u : World => u.cell? ⟨wr.heap.size, 1, none⟩ = some (.int .i64 i) ∧ u.cell? ⟨wr.heap.size, 2, none⟩ = some (.int .i64 r))) (by kernel_rfl) (HA0.out.drew.cells) (fun HS => ?_)
          refine handTake 0 (some 50) ?_ rfl rfl (by kernel_rfl) (by kernel_rfl) (by kernel_rfl) (fun _ _ _ h => h) (by rfl) ?_ HS ?_
          rotate_left
          · (intro u hu; (try dsimp only at hu); go_simp; try with_reducible rfl)
          simp only [Act.put, List.setIfInBounds_toArray, List.set_cons_zero, List.set_cons_succ]
          refine handTake 1 (some 51) ?_ rfl rfl (by kernel_rfl) (by kernel_rfl) (by kernel_rfl) (fun _ _ _ h => h) (by rfl) ?_ HS ?_
          rotate_left
          · (intro u hu; (try dsimp only at hu); go_simp; try with_reducible rfl)
          simp only [Act.put, List.setIfInBounds_toArray, List.set_cons_zero, List.set_cons_succ]
          refine handTake 2 (some 52) ?_ rfl rfl (by kernel_rfl) (by kernel_rfl) (by kernel_rfl) (fun _ _ _ h => h) (by rfl) ?_ HS ?_
          rotate_left
          · (intro u hu; (try dsimp only at hu); go_simp; try with_reducible rfl)
          simp only [Act.put, List.setIfInBounds_toArray, List.set_cons_zero, List.set_cons_succ]
          refine handTake 3 (some 53) ?_ rfl rfl (by kernel_rfl) (by kernel_rfl) (by kernel_rfl) (fun _ _ _ h => h) (by rfl) ?_ HS ?_
          rotate_left
          · (intro u hu; (try dsimp only at hu); go_simp; try with_reducible rfl)
          simp only [Act.put, List.setIfInBounds_toArray, List.set_cons_zero, List.set_cons_succ]
          refine handTake 4 (some 54) ?_ rfl rfl (by kernel_rfl) (by kernel_rfl) (by kernel_rfl) (fun _ _ _ h => h) (by rfl) ?_ HS ?_
          rotate_left
          · (intro u hu; (try dsimp only at hu); go_simp; try with_reducible rfl)
          simp only [Act.put, List.setIfInBounds_toArray, List.set_cons_zero, List.set_cons_succ]
          refine handTake 6 (some 56) ?_ rfl rfl (by kernel_rfl) (by kernel_rfl) (by kernel_rfl) (fun _ _ _ h => h) (by rfl) ?_ HS ?_
          rotate_left
          · (intro u hu; (try dsimp only at hu); go_simp; try with_reducible rfl)
          simp only [Act.put, List.setIfInBounds_toArray, List.set_cons_zero, List.set_cons_succ]
          refine handTake 7 (some 57) ?_ rfl rfl (by kernel_rfl) (by kernel_rfl) (by kernel_rfl) (fun _ _ _ h => h) (by rfl) ?_ HS ?_
          rotate_left
          · (intro u hu; (try dsimp only at hu); go_simp; try with_reducible rfl)
          simp only [Act.put, List.setIfInBounds_toArray, List.set_cons_zero, List.set_cons_succ]
          refine handTake 8 (some 58) ?_ rfl rfl (by kernel_rfl) (by kernel_rfl) (by kernel_rfl) (fun _ _ _ h => h) (by rfl) ?_ HS ?_
          rotate_left
          · (intro u hu; (try dsimp only at hu); go_simp; try with_reducible rfl)
          simp only [Act.put, List.setIfInBounds_toArray, List.set_cons_zero, List.set_cons_succ]
          refine handTake 9 (some 59) ?_ rfl rfl (by kernel_rfl) (by kernel_rfl) (by kernel_rfl) (fun _ _ _ h => h) (by rfl) ?_ HS ?_
          rotate_left
          · (intro u hu; (try dsimp only at hu); go_simp; try with_reducible rfl)
          simp only [Act.put, List.setIfInBounds_toArray, List.set_cons_zero, List.set_cons_succ]
          refine handTake 10 (some 60) ?_ rfl rfl (by kernel_rfl) (by kernel_rfl) (by kernel_rfl) (fun _ _ _ h => h) (by rfl) ?_ HS ?_
          rotate_left
          · (intro u hu; (try dsimp only at hu); go_simp; try with_reducible rfl)
          simp only [Act.put, List.setIfInBounds_toArray, List.set_cons_zero, List.set_cons_succ]
          refine wpAnyH_ready (rs := [5]) (by kernel_rfl) (by simp) ?_
          refine AllReadyH.cons rfl (fun K hK => ?_) AllReadyH.nil
          go_simp
          clear HS
          refine (note_every (w.heap.size + 1) w.heap.size n HN0.out R HF.out i r _ HA0.out.drew.t).mono ?_
          rintro e1 u1 ⟨rfl, ht, ho⟩
          have HA1 := Lib.hid (HA0.out.drew.note HO.out ht ho)
          clear ht ho
          go_wp2_with fail
          refine hK.out _ _ (HA1.out.cells) (fun HS => ?_)
          clear hK
          try simp only [Act.put, List.setIfInBounds_toArray, List.set_cons_zero, List.set_cons_succ]
          refine wpAnyH_ready (rs := [11]) (by kernel_rfl) (by simp) ?_
          refine AllReadyH.cons rfl (fun K hK => ?_) AllReadyH.nil
          go_simp
          clear HS
          refine (rnote_every gr n HN7.out R HF.out i r vr _ HA1.out.m).mono ?_
          rintro e2 u2 ⟨rfl, hm⟩
          obtain ⟨v2, hst⟩ := HA1.out.rnote HO.out hm
          have HA2 := Lib.hid hst
          clear hst hm
          go_wp2_with fail
          refine hK.out _ _ (HA2.out.cells) (fun HS => ?_)
          clear hK
          try simp only [Act.put, List.setIfInBounds_toArray, List.set_cons_zero, List.set_cons_succ]
          refine handTake 12 (some 62) ?_ rfl rfl (by kernel_rfl) (by kernel_rfl) (by kernel_rfl) (fun _ _ _ h => h) (by rfl) ?_ HS ?_
          rotate_left
          · (intro u hu; (try dsimp only at hu); go_simp; try with_reducible rfl)
          simp only [Act.put, List.setIfInBounds_toArray, List.set_cons_zero, List.set_cons_succ]
          refine wpAnyH_done (by kernel_rfl) ?_ _
          clear HS
          go_wp2_with fail
          have HF2 := Lib.hid (fit_note HF.out HN7.out i r)
          refine wp_region_held_drew (S := (fun u : World => u.cell? ⟨wr.heap.size, 1, none⟩ = some (.int .i64 i) ∧ u.cell? ⟨wr.heap.size, 2, none⟩ = some (.int .i64 r))) (by kernel_rfl) (HA2.out.drew.cells) (fun HS => ?_)
          refine handTake 0 (some 73) ?_ rfl rfl (by kernel_rfl) (by kernel_rfl) (by kernel_rfl) (fun _ _ _ h => h) (by rfl) ?_ HS ?_
          rotate_left
          · (intro u hu; (try dsimp only at hu); go_simp; try with_reducible rfl)
          simp only [Act.put, List.setIfInBounds_toArray, List.set_cons_zero, List.set_cons_succ]
          refine handTake 1 (some 74) ?_ rfl rfl (by kernel_rfl) (by kernel_rfl) (by kernel_rfl) (fun _ _ _ h => h) (by rfl) ?_ HS ?_
          rotate_left
          · (intro u hu; (try dsimp only at hu); go_simp; try with_reducible rfl)
          simp only [Act.put, List.setIfInBounds_toArray, List.set_cons_zero, List.set_cons_succ]
          refine handTake 2 (some 75) ?_ rfl rfl (by kernel_rfl) (by kernel_rfl) (by kernel_rfl) (fun _ _ _ h => h) (by rfl) ?_ HS ?_
          rotate_left
          · (intro u hu; (try dsimp only at hu); go_simp; try with_reducible rfl)
          simp only [Act.put, List.setIfInBounds_toArray, List.set_cons_zero, List.set_cons_succ]
          refine handTake 4 (some 77) ?_ rfl rfl (by kernel_rfl) (by kernel_rfl) (by kernel_rfl) (fun _ _ _ h => h) (by rfl) ?_ HS ?_
          rotate_left
          · (intro u hu; (try dsimp only at hu); go_simp; try with_reducible rfl)
          simp only [Act.put, List.setIfInBounds_toArray, List.set_cons_zero, List.set_cons_succ]
          refine handTake 5 (some 78) ?_ rfl rfl (by kernel_rfl) (by kernel_rfl) (by kernel_rfl) (fun _ _ _ h => h) (by rfl) ?_ HS ?_
          rotate_left
          · (intro u hu; (try dsimp only at hu); go_simp; try with_reducible rfl)
          simp only [Act.put, List.setIfInBounds_toArray, List.set_cons_zero, List.set_cons_succ]
          refine handTake 6 (some 79) ?_ rfl rfl (by kernel_rfl) (by kernel_rfl) (by kernel_rfl) (fun _ _ _ h => h) (by rfl) ?_ HS ?_
          rotate_left
          · (intro u hu; (try dsimp only at hu); go_simp; try with_reducible rfl)
          simp only [Act.put, List.setIfInBounds_toArray, List.set_cons_zero, List.set_cons_succ]
          refine wpAnyH_ready (rs := [3]) (by kernel_rfl) (by simp) ?_
          refine AllReadyH.cons rfl (fun K hK => ?_) AllReadyH.nil
          go_simp
          clear HS
          refine (count_any (w.heap.size + 1) w.heap.size n HN0.out (noteS R n i r) HF2.out.1 i HI.out _ HA2.out.drew.t).mono ?_
          rintro e3 u3 ⟨rfl, hx⟩
          have HA3 := Lib.hid (HA2.out.drew.call hx)
          clear hx
          go_wp2_with fail
          refine hK.out _ _ (HA3.out.cells) (fun HS => ?_)
          clear hK
          try simp only [Act.put, List.setIfInBounds_toArray, List.set_cons_zero, List.set_cons_succ]
          refine wpAnyH_ready (rs := [7]) (by kernel_rfl) (by simp) ?_
          refine AllReadyH.cons rfl (fun K hK => ?_) AllReadyH.nil
          go_simp
          clear HS
          refine (rcount_any gr n (noteS R n i r) HF2.out.1 i _ HA3.out.m.rat).mono ?_
          rintro e4 u4 ⟨rfl, hx⟩
          have HA4 := Lib.hid (HA3.out.call hx)
          clear hx
          go_wp2_with fail
          refine hK.out _ _ (HA4.out.cells) (fun HS => ?_)
          clear hK
          try simp only [Act.put, List.setIfInBounds_toArray, List.set_cons_zero, List.set_cons_succ]
          refine handTake 8 (some 81) ?_ rfl rfl (by kernel_rfl) (by kernel_rfl) (by kernel_rfl) (fun _ _ _ h => h) (by rfl) ?_ HS ?_
          rotate_left
          · (intro u hu; (try dsimp only at hu); go_simp; try with_reducible rfl)
          simp only [Act.put, List.setIfInBounds_toArray, List.set_cons_zero, List.set_cons_succ]
          refine handTake 9 (some 82) ?_ rfl rfl (by kernel_rfl) (by kernel_rfl) (by kernel_rfl) (fun _ _ _ h => h) (by rfl) ?_ HS ?_
          rotate_left
          · (intro u hu; (try dsimp only at hu); go_simp; try with_reducible rfl)
          simp only [Act.put, List.setIfInBounds_toArray, List.set_cons_zero, List.set_cons_succ]
          refine handTake 10 (some 83) ?_ rfl rfl (by kernel_rfl) (by kernel_rfl) (by kernel_rfl) (fun _ _ _ h => h) (by rfl) ?_ HS ?_
          rotate_left
          · (intro u hu; (try dsimp only at hu); go_simp; try with_reducible rfl)
          simp only [Act.put, List.setIfInBounds_toArray, List.set_cons_zero, List.set_cons_succ]
          refine handTake 11 (some 84) ?_ rfl rfl (by kernel_rfl) (by kernel_rfl) (by kernel_rfl) (fun _ _ _ h => h) (by rfl) ?_ HS ?_
          rotate_left
          · (intro u hu; (try dsimp only at hu); go_simp; try with_reducible rfl)
          simp only [Act.put, List.setIfInBounds_toArray, List.set_cons_zero, List.set_cons_succ]
          refine handTake 12 (some 85) ?_ rfl rfl (by kernel_rfl) (by kernel_rfl) (by kernel_rfl) (fun _ _ _ h => h) (by rfl) ?_ HS ?_
          rotate_left
          · (intro u hu; (try dsimp only at hu); go_simp; try with_reducible rfl)
          simp only [Act.put, List.setIfInBounds_toArray, List.set_cons_zero, List.set_cons_succ]
          refine handTake 14 (some 87) ?_ rfl rfl (by kernel_rfl) (by kernel_rfl) (by kernel_rfl) (fun _ _ _ h => h) (by rfl) ?_ HS ?_
          rotate_left
          · (intro u hu; (try dsimp only at hu); go_simp; try with_reducible rfl)
          simp only [Act.put, List.setIfInBounds_toArray, List.set_cons_zero, List.set_cons_succ]
          refine handTake 15 (some 88) ?_ rfl rfl (by kernel_rfl) (by kernel_rfl) (by kernel_rfl) (fun _ _ _ h => h) (by rfl) ?_ HS ?_
          rotate_left
          · (intro u hu; (try dsimp only at hu); go_simp; try with_reducible rfl)
          simp only [Act.put, List.setIfInBounds_toArray, List.set_cons_zero, List.set_cons_succ]
          refine handTake 16 (some 89) ?_ rfl rfl (by kernel_rfl) (by kernel_rfl) (by kernel_rfl) (fun _ _ _ h => h) (by rfl) ?_ HS ?_
          rotate_left
          · (intro u hu; (try dsimp only at hu); go_simp; try with_reducible rfl)
          simp only [Act.put, List.setIfInBounds_toArray, List.set_cons_zero, List.set_cons_succ]
          refine wpAnyH_ready (rs := [13]) (by kernel_rfl) (by simp) ?_
          refine AllReadyH.cons rfl (fun K hK => ?_) AllReadyH.nil
          go_simp
          clear HS
          refine (upto_every (w.heap.size + 1) w.heap.size n HN0.out (noteS R n i r) HF2.out i _ HA4.out.t).mono ?_
          rintro e5 u5 ⟨⟨x, rfl, hu⟩, hx⟩
          have HA5 := Lib.hid (HA4.out.call hx)
          have HU1 := Lib.hid hu
          clear hx hu
          go_wp2_with fail
          refine hK.out _ _ (HA5.out.cells) (fun HS => ?_)
          clear hK
          try simp only [Act.put, List.setIfInBounds_toArray, List.set_cons_zero, List.set_cons_succ]
          refine wpAnyH_ready (rs := [17]) (by kernel_rfl) (by simp) ?_
          refine AllReadyH.cons rfl (fun K hK => ?_) AllReadyH.nil
          go_simp
          clear HS
          refine (rupto_every gr n HMP.out (noteS R n i r) HF2.out i _ HA5.out.m.rat).mono ?_
          rintro e6 u6 ⟨⟨y, rfl, hu⟩, hx⟩
          have HA6 := Lib.hid (HA5.out.call hx)
          obtain rfl := UptoAll.one HU1.out hu
          clear hx hu HU1
          go_wp2_with fail
          refine hK.out _ _ (HA6.out.cells) (fun HS => ?_)
          clear hK
          try simp only [Act.put, List.setIfInBounds_toArray, List.set_cons_zero, List.set_cons_succ]
          refine handTake 18 (some 91) ?_ rfl rfl (by kernel_rfl) (by kernel_rfl) (by kernel_rfl) (fun _ _ _ h => h) (by rfl) ?_ HS ?_
          rotate_left
          · (intro u hu; (try dsimp only at hu); go_simp; try with_reducible rfl)
          simp only [Act.put, List.setIfInBounds_toArray, List.set_cons_zero, List.set_cons_succ]
          refine handTake 19 (some 92) ?_ rfl rfl (by kernel_rfl) (by kernel_rfl) (by kernel_rfl) (fun _ _ _ h => h) (by rfl) ?_ HS ?_
          rotate_left
          · (intro u hu; (try dsimp only at hu); go_simp; try with_reducible rfl)
          simp only [Act.put, List.setIfInBounds_toArray, List.set_cons_zero, List.set_cons_succ]
          refine handTake 20 (some 93) ?_ rfl rfl (by kernel_rfl) (by kernel_rfl) (by kernel_rfl) (fun _ _ _ h => h) (by rfl) ?_ HS ?_
          rotate_left
          · (intro u hu; (try dsimp only at hu); go_simp; try with_reducible rfl)
          simp only [Act.put, List.setIfInBounds_toArray, List.set_cons_zero, List.set_cons_succ]
          refine handTake 21 (some 94) ?_ rfl rfl (by kernel_rfl) (by kernel_rfl) (by kernel_rfl) (fun _ _ _ h => h) (by rfl) ?_ HS ?_
          rotate_left
          · (intro u hu; (try dsimp only at hu); go_simp; try with_reducible rfl)
          simp only [Act.put, List.setIfInBounds_toArray, List.set_cons_zero, List.set_cons_succ]
          refine handTake 23 (some 96) ?_ rfl rfl (by kernel_rfl) (by kernel_rfl) (by kernel_rfl) (fun _ _ _ h => h) (by rfl) ?_ HS ?_
          rotate_left
          · (intro u hu; (try dsimp only at hu); go_simp; try with_reducible rfl)
          simp only [Act.put, List.setIfInBounds_toArray, List.set_cons_zero, List.set_cons_succ]
          refine wpAnyH_ready (rs := [22]) (by kernel_rfl) (by simp) ?_
          refine AllReadyH.cons rfl (fun K hK => ?_) AllReadyH.nil
          go_simp
          clear HS
          refine (upto_every (w.heap.size + 1) w.heap.size n HN0.out (noteS R n i r) HF2.out 0 _ HA6.out.t).mono ?_
          rintro e7 u7 ⟨⟨z, rfl, hu⟩, hx⟩
          have HA7 := Lib.hid (HA6.out.call hx)
          have HU2 := Lib.hid hu
          clear hx hu
          go_wp2_with fail
          refine hK.out _ _ (HA7.out.cells) (fun HS => ?_)
          clear hK
          try simp only [Act.put, List.setIfInBounds_toArray, List.set_cons_zero, List.set_cons_succ]
          refine wpAnyH_ready (rs := [24]) (by kernel_rfl) (by simp) ?_
          refine AllReadyH.cons rfl (fun K hK => ?_) AllReadyH.nil
          go_simp
          clear HS
          refine (rupto_every gr n HMP.out (noteS R n i r) HF2.out 0 _ HA7.out.m.rat).mono ?_
          rintro e8 u8 ⟨⟨y, rfl, hu⟩, hx⟩
          have HA8 := Lib.hid (HA7.out.call hx)
          obtain rfl := UptoAll.one HU2.out hu
          clear hx hu HU2
          go_wp2_with fail
          refine hK.out _ _ (HA8.out.cells) (fun HS => ?_)
          clear hK
          try simp only [Act.put, List.setIfInBounds_toArray, List.set_cons_zero, List.set_cons_succ]
          refine handTake 25 (some 98) ?_ rfl rfl (by kernel_rfl) (by kernel_rfl) (by kernel_rfl) (fun _ _ _ h => h) (by rfl) ?_ HS ?_
          rotate_left
          · (intro u hu; (try dsimp only at hu); go_simp; try with_reducible rfl)
          simp only [Act.put, List.setIfInBounds_toArray, List.set_cons_zero, List.set_cons_succ]
          refine handTake 26 (some 99) ?_ rfl rfl (by kernel_rfl) (by kernel_rfl) (by kernel_rfl) (fun _ _ _ h => h) (by rfl) ?_ HS ?_
          rotate_left
          · (intro u hu; (try dsimp only at hu); go_simp; try with_reducible rfl)
          simp only [Act.put, List.setIfInBounds_toArray, List.set_cons_zero, List.set_cons_succ]
          refine wpAnyH_done (by kernel_rfl) ?_ _
          clear HS
          go_wp2_with fail
          go_roundw
          case rel => exact ⟨k + 1, noteS R n i r, v2, by omega, by go_num, HF2.out, HA8.out.t, HA8.out.m, HA8.out.below⟩
          case measure => simp [intOf]; omega
        · have m0 : ((kd : Int) % 4 == 0) = false := by rw [h4]; rfl
          have m1 : ((kd : Int) % 4 == 1) = true := by rw [h4]; rfl
          have m2 : ((kd : Int) % 4 == 2) = false := by rw [h4]; rfl
          have HA0 := HS
          clear HS
          go_wp2_with fail
          refine wp_region_held_drew (S := (fun u : World => u.cell? ⟨wr.heap.size, 1, none⟩ = some (.int .i64 i) ∧ u.cell? ⟨wr.heap.size, 2, none⟩ = some (.int .i64 r))) (by kernel_rfl) (HA0.out.drew.cells) (fun HS => ?_)
          refine handTake 0 (some 50) ?_ rfl rfl (by kernel_rfl) (by kernel_rfl) (by kernel_rfl) (fun _ _ _ h => h) (by rfl) ?_ HS ?_
          rotate_left
          · (intro u hu; (try dsimp only at hu); go_simp; try with_reducible rfl)
          simp only [Act.put, List.setIfInBounds_toArray, List.set_cons_zero, List.set_cons_succ]
          refine handTake 1 (some 51) ?_ rfl rfl (by kernel_rfl) (by kernel_rfl) (by kernel_rfl) (fun _ _ _ h => h) (by rfl) ?_ HS ?_
          rotate_left
          · (intro u hu; (try dsimp only at hu); go_simp; try with_reducible rfl)
          simp only [Act.put, List.setIfInBounds_toArray, List.set_cons_zero, List.set_cons_succ]
          refine handTake 2 (some 52) ?_ rfl rfl (by kernel_rfl) (by kernel_rfl) (by kernel_rfl) (fun _ _ _ h => h) (by rfl) ?_ HS ?_
          rotate_left
          · (intro u hu; (try dsimp only at hu); go_simp; try with_reducible rfl)
          simp only [Act.put, List.setIfInBounds_toArray, List.set_cons_zero, List.set_cons_succ]
          refine handTake 3 (some 53) ?_ rfl rfl (by kernel_rfl) (by kernel_rfl) (by kernel_rfl) (fun _ _ _ h => h) (by rfl) ?_ HS ?_
          rotate_left
          · (intro u hu; (try dsimp only at hu); go_simp; try with_reducible rfl)
          simp only [Act.put, List.setIfInBounds_toArray, List.set_cons_zero, List.set_cons_succ]
          refine handTake 4 (some 54) ?_ rfl rfl (by kernel_rfl) (by kernel_rfl) (by kernel_rfl) (fun _ _ _ h => h) (by rfl) ?_ HS ?_
          rotate_left
          · (intro u hu; (try dsimp only at hu); go_simp; try with_reducible rfl)
          simp only [Act.put, List.setIfInBounds_toArray, List.set_cons_zero, List.set_cons_succ]
          refine handTake 6 (some 56) ?_ rfl rfl (by kernel_rfl) (by kernel_rfl) (by kernel_rfl) (fun _ _ _ h => h) (by rfl) ?_ HS ?_
          rotate_left
          · (intro u hu; (try dsimp only at hu); go_simp; try with_reducible rfl)
          simp only [Act.put, List.setIfInBounds_toArray, List.set_cons_zero, List.set_cons_succ]
          refine handTake 7 (some 57) ?_ rfl rfl (by kernel_rfl) (by kernel_rfl) (by kernel_rfl) (fun _ _ _ h => h) (by rfl) ?_ HS ?_
          rotate_left
          · (intro u hu; (try dsimp only at hu); go_simp; try with_reducible rfl)
          simp only [Act.put, List.setIfInBounds_toArray, List.set_cons_zero, List.set_cons_succ]
          refine handTake 8 (some 58) ?_ rfl rfl (by kernel_rfl) (by kernel_rfl) (by kernel_rfl) (fun _ _ _ h => h) (by rfl) ?_ HS ?_
          rotate_left
          · (intro u hu; (try dsimp only at hu); go_simp; try with_reducible rfl)
          simp only [Act.put, List.setIfInBounds_toArray, List.set_cons_zero, List.set_cons_succ]
          refine handTake 9 (some 59) ?_ rfl rfl (by kernel_rfl) (by kernel_rfl) (by kernel_rfl) (fun _ _ _ h => h) (by rfl) ?_ HS ?_
          rotate_left
          · (intro u hu; (try dsimp only at hu); go_simp; try with_reducible rfl)
          simp only [Act.put, List.setIfInBounds_toArray, List.set_cons_zero, List.set_cons_succ]
          refine handTake 10 (some 60) ?_ rfl rfl (by kernel_rfl) (by kernel_rfl) (by kernel_rfl) (fun _ _ _ h => h) (by rfl) ?_ HS ?_
          rotate_left
          · (intro u hu; (try dsimp only at hu); go_simp; try with_reducible rfl)
          simp only [Act.put, List.setIfInBounds_toArray, List.set_cons_zero, List.set_cons_succ]
          refine wpAnyH_ready (rs := [5]) (by kernel_rfl) (by simp) ?_
          refine AllReadyH.cons rfl (fun K hK => ?_) AllReadyH.nil
          go_simp
          clear HS
          refine (note_every (w.heap.size + 1) w.heap.size n HN0.out R HF.out i r _ HA0.out.drew.t).mono ?_
          rintro e1 u1 ⟨rfl, ht, ho⟩
          have HA1 := Lib.hid (HA0.out.drew.note HO.out ht ho)
          clear ht ho
          go_wp2_with fail
          refine hK.out _ _ (HA1.out.cells) (fun HS => ?_)
          clear hK
          try simp only [Act.put, List.setIfInBounds_toArray, List.set_cons_zero, List.set_cons_succ]
          refine wpAnyH_ready (rs := [11]) (by kernel_rfl) (by simp) ?_
          refine AllReadyH.cons rfl (fun K hK => ?_) AllReadyH.nil
          go_simp
          clear HS
          refine (rnote_every gr n HN7.out R HF.out i r vr _ HA1.out.m).mono ?_
          rintro e2 u2 ⟨rfl, hm⟩
          obtain ⟨v2, hst⟩ := HA1.out.rnote HO.out hm
          have HA2 := Lib.hid hst
          clear hst hm
          go_wp2_with fail
          refine hK.out _ _ (HA2.out.cells) (fun HS => ?_)
          clear hK
          try simp only [Act.put, List.setIfInBounds_toArray, List.set_cons_zero, List.set_cons_succ]
          refine handTake 12 (some 62) ?_ rfl rfl (by kernel_rfl) (by kernel_rfl) (by kernel_rfl) (fun _ _ _ h => h) (by rfl) ?_ HS ?_
          rotate_left
          · (intro u hu; (try dsimp only at hu); go_simp; try with_reducible rfl)
          simp only [Act.put, List.setIfInBounds_toArray, List.set_cons_zero, List.set_cons_succ]
          refine wpAnyH_done (by kernel_rfl) ?_ _
          clear HS
          go_wp2_with fail
          have HF2 := Lib.hid (fit_note HF.out HN7.out i r)
          refine wp_region_held_drew (S := (fun u : World => u.cell? ⟨wr.heap.size, 1, none⟩ = some (.int .i64 i) ∧ u.cell? ⟨wr.heap.size, 2, none⟩ = some (.int .i64 r))) (by kernel_rfl) (HA2.out.drew.cells) (fun HS => ?_)
          refine handTake 0 (some 73) ?_ rfl rfl (by kernel_rfl) (by kernel_rfl) (by kernel_rfl) (fun _ _ _ h => h) (by rfl) ?_ HS ?_
          rotate_left
          · (intro u hu; (try dsimp only at hu); go_simp; try with_reducible rfl)
          simp only [Act.put, List.setIfInBounds_toArray, List.set_cons_zero, List.set_cons_succ]
          refine handTake 1 (some 74) ?_ rfl rfl (by kernel_rfl) (by kernel_rfl) (by kernel_rfl) (fun _ _ _ h => h) (by rfl) ?_ HS ?_
          rotate_left
          · (intro u hu; (try dsimp only at hu); go_simp; try with_reducible rfl)
          simp only [Act.put, List.setIfInBounds_toArray, List.set_cons_zero, List.set_cons_succ]
          refine handTake 2 (some 75) ?_ rfl rfl (by kernel_rfl) (by kernel_rfl) (by kernel_rfl) (fun _ _ _ h => h) (by rfl) ?_ HS ?_
          rotate_left
          · (intro u hu; (try dsimp only at hu); go_simp; try with_reducible rfl)
          simp only [Act.put, List.setIfInBounds_toArray, List.set_cons_zero, List.set_cons_succ]
          refine handTake 4 (some 77) ?_ rfl rfl (by kernel_rfl) (by kernel_rfl) (by kernel_rfl) (fun _ _ _ h => h) (by rfl) ?_ HS ?_
          rotate_left
          · (intro u hu; (try dsimp only at hu); go_simp; try with_reducible rfl)
          simp only [Act.put, List.setIfInBounds_toArray, List.set_cons_zero, List.set_cons_succ]
          refine handTake 5 (some 78) ?_ rfl rfl (by kernel_rfl) (by kernel_rfl) (by kernel_rfl) (fun _ _ _ h => h) (by rfl) ?_ HS ?_
          rotate_left
          · (intro u hu; (try dsimp only at hu); go_simp; try with_reducible rfl)
          simp only [Act.put, List.setIfInBounds_toArray, List.set_cons_zero, List.set_cons_succ]
          refine handTake 6 (some 79) ?_ rfl rfl (by kernel_rfl) (by kernel_rfl) (by kernel_rfl) (fun _ _ _ h => h) (by rfl) ?_ HS ?_
          rotate_left
          · (intro u hu; (try dsimp only at hu); go_simp; try with_reducible rfl)
          simp only [Act.put, List.setIfInBounds_toArray, List.set_cons_zero, List.set_cons_succ]
          refine wpAnyH_ready (rs := [3]) (by kernel_rfl) (by simp) ?_
          refine AllReadyH.cons rfl (fun K hK => ?_) AllReadyH.nil
          go_simp
          clear HS
          refine (count_any (w.heap.size + 1) w.heap.size n HN0.out (noteS R n i r) HF2.out.1 i HI.out _ HA2.out.drew.t).mono ?_
          rintro e3 u3 ⟨rfl, hx⟩
          have HA3 := Lib.hid (HA2.out.drew.call hx)
          clear hx
          go_wp2_with fail
          refine hK.out _ _ (HA3.out.cells) (fun HS => ?_)
          clear hK
          try simp only [Act.put, List.setIfInBounds_toArray, List.set_cons_zero, List.set_cons_succ]
          refine wpAnyH_ready (rs := [7]) (by kernel_rfl) (by simp) ?_
          refine AllReadyH.cons rfl (fun K hK => ?_) AllReadyH.nil
          go_simp
          clear HS
          refine (rcount_any gr n (noteS R n i r) HF2.out.1 i _ HA3.out.m.rat).mono ?_
          rintro e4 u4 ⟨rfl, hx⟩
          have HA4 := Lib.hid (HA3.out.call hx)
          clear hx
          go_wp2_with fail
          refine hK.out _ _ (HA4.out.cells) (fun HS => ?_)
          clear hK
          try simp only [Act.put, List.setIfInBounds_toArray, List.set_cons_zero, List.set_cons_succ]
          refine handTake 8 (some 81) ?_ rfl rfl (by kernel_rfl) (by kernel_rfl) (by kernel_rfl) (fun _ _ _ h => h) (by rfl) ?_ HS ?_
          rotate_left
          · (intro u hu; (try dsimp only at hu); go_simp; try with_reducible rfl)
          simp only [Act.put, List.setIfInBounds_toArray, List.set_cons_zero, List.set_cons_succ]
          refine handTake 9 (some 82) ?_ rfl rfl (by kernel_rfl) (by kernel_rfl) (by kernel_rfl) (fun _ _ _ h => h) (by rfl) ?_ HS ?_
          rotate_left
          · (intro u hu; (try dsimp only at hu); go_simp; try with_reducible rfl)
          simp only [Act.put, List.setIfInBounds_toArray, List.set_cons_zero, List.set_cons_succ]
          refine handTake 10 (some 83) ?_ rfl rfl (by kernel_rfl) (by kernel_rfl) (by kernel_rfl) (fun _ _ _ h => h) (by rfl) ?_ HS ?_
          rotate_left
          · (intro u hu; (try dsimp only at hu); go_simp; try with_reducible rfl)
          simp only [Act.put, List.setIfInBounds_toArray, List.set_cons_zero, List.set_cons_succ]
          refine handTake 11 (some 84) ?_ rfl rfl (by kernel_rfl) (by kernel_rfl) (by kernel_rfl) (fun _ _ _ h => h) (by rfl) ?_ HS ?_
          rotate_left
          · (intro u hu; (try dsimp only at hu); go_simp; try with_reducible rfl)
          simp only [Act.put, List.setIfInBounds_toArray, List.set_cons_zero, List.set_cons_succ]
          refine handTake 12 (some 85) ?_ rfl rfl (by kernel_rfl) (by kernel_rfl) (by kernel_rfl) (fun _ _ _ h => h) (by rfl) ?_ HS ?_
          rotate_left
          · (intro u hu; (try dsimp only at hu); go_simp; try with_reducible rfl)
          simp only [Act.put, List.setIfInBounds_toArray, List.set_cons_zero, List.set_cons_succ]
          refine handTake 14 (some 87) ?_ rfl rfl (by kernel_rfl) (by kernel_rfl) (by kernel_rfl) (fun _ _ _ h => h) (by rfl) ?_ HS ?_
          rotate_left
          · (intro u hu; (try dsimp only at hu); go_simp; try with_reducible rfl)
          simp only [Act.put, List.setIfInBounds_toArray, List.set_cons_zero, List.set_cons_succ]
          refine handTake 15 (some 88) ?_ rfl rfl (by kernel_rfl) (by kernel_rfl) (by kernel_rfl) (fun _ _ _ h => h) (by rfl) ?_ HS ?_
          rotate_left
          · (intro u hu; (try dsimp only at hu); go_simp; try with_reducible rfl)
          simp only [Act.put, List.setIfInBounds_toArray, List.set_cons_zero, List.set_cons_succ]
          refine handTake 16 (some 89) ?_ rfl rfl (by kernel_rfl) (by kernel_rfl) (by kernel_rfl) (fun _ _ _ h => h) (by rfl) ?_ HS ?_
          rotate_left
          · (intro u hu; (try dsimp only at hu); go_simp; try with_reducible rfl)
          simp only [Act.put, List.setIfInBounds_toArray, List.set_cons_zero, List.set_cons_succ]
          refine wpAnyH_ready (rs := [13]) (by kernel_rfl) (by simp) ?_
          refine AllReadyH.cons rfl (fun K hK => ?_) AllReadyH.nil
          go_simp
          clear HS
          refine (upto_every (w.heap.size + 1) w.heap.size n HN0.out (noteS R n i r) HF2.out i _ HA4.out.t).mono ?_
          rintro e5 u5 ⟨⟨x, rfl, hu⟩, hx⟩
          have HA5 := Lib.hid (HA4.out.call hx)
          have HU1 := Lib.hid hu
          clear hx hu
          go_wp2_with fail
          refine hK.out _ _ (HA5.out.cells) (fun HS => ?_)
          clear hK
          try simp only [Act.put, List.setIfInBounds_toArray, List.set_cons_zero, List.set_cons_succ]
          refine wpAnyH_ready (rs := [17]) (by kernel_rfl) (by simp) ?_
          refine AllReadyH.cons rfl (fun K hK => ?_) AllReadyH.nil
          go_simp
          clear HS
          refine (rupto_every gr n HMP.out (noteS R n i r) HF2.out i _ HA5.out.m.rat).mono ?_
          rintro e6 u6 ⟨⟨y, rfl, hu⟩, hx⟩
          have HA6 := Lib.hid (HA5.out.call hx)
          obtain rfl := UptoAll.one HU1.out hu
          clear hx hu HU1
          go_wp2_with fail
          refine hK.out _ _ (HA6.out.cells) (fun HS => ?_)
          clear hK
          try simp only [Act.put, List.setIfInBounds_toArray, List.set_cons_zero, List.set_cons_succ]
          refine handTake 18 (some 91) ?_ rfl rfl (by kernel_rfl) (by kernel_rfl) (by kernel_rfl) (fun _ _ _ h => h) (by rfl) ?_ HS ?_
          rotate_left
          · (intro u hu; (try dsimp only at hu); go_simp; try with_reducible rfl)
          simp only [Act.put, List.setIfInBounds_toArray, List.set_cons_zero, List.set_cons_succ]
          refine handTake 19 (some 92) ?_ rfl rfl (by kernel_rfl) (by kernel_rfl) (by kernel_rfl) (fun _ _ _ h => h) (by rfl) ?_ HS ?_
          rotate_left
          · (intro u hu; (try dsimp only at hu); go_simp; try with_reducible rfl)
          simp only [Act.put, List.setIfInBounds_toArray, List.set_cons_zero, List.set_cons_succ]
          refine handTake 20 (some 93) ?_ rfl rfl (by kernel_rfl) (by kernel_rfl) (by kernel_rfl) (fun _ _ _ h => h) (by rfl) ?_ HS ?_
          rotate_left
          · (intro u hu; (try dsimp only at hu); go_simp; try with_reducible rfl)
          simp only [Act.put, List.setIfInBounds_toArray, List.set_cons_zero, List.set_cons_succ]
          refine handTake 21 (some 94) ?_ rfl rfl (by kernel_rfl) (by kernel_rfl) (by kernel_rfl) (fun _ _ _ h => h) (by rfl) ?_ HS ?_
          rotate_left
          · (intro u hu; (try dsimp only at hu); go_simp; try with_reducible rfl)
          simp only [Act.put, List.setIfInBounds_toArray, List.set_cons_zero, List.set_cons_succ]
          refine handTake 23 (some 96) ?_ rfl rfl (by kernel_rfl) (by kernel_rfl) (by kernel_rfl) (fun _ _ _ h => h) (by rfl) ?_ HS ?_
          rotate_left
          · (intro u hu; (try dsimp only at hu); go_simp; try with_reducible rfl)
          simp only [Act.put, List.setIfInBounds_toArray, List.set_cons_zero, List.set_cons_succ]
          refine wpAnyH_ready (rs := [22]) (by kernel_rfl) (by simp) ?_
          refine AllReadyH.cons rfl (fun K hK => ?_) AllReadyH.nil
          go_simp
          clear HS
          refine (upto_every (w.heap.size + 1) w.heap.size n HN0.out (noteS R n i r) HF2.out 0 _ HA6.out.t).mono ?_
          rintro e7 u7 ⟨⟨z, rfl, hu⟩, hx⟩
          have HA7 := Lib.hid (HA6.out.call hx)
          have HU2 := Lib.hid hu
          clear hx hu
          go_wp2_with fail
          refine hK.out _ _ (HA7.out.cells) (fun HS => ?_)
          clear hK
          try simp only [Act.put, List.setIfInBounds_toArray, List.set_cons_zero, List.set_cons_succ]
          refine wpAnyH_ready (rs := [24]) (by kernel_rfl) (by simp) ?_
          refine AllReadyH.cons rfl (fun K hK => ?_) AllReadyH.nil
          go_simp
          clear HS
          refine (rupto_every gr n HMP.out (noteS R n i r) HF2.out 0 _ HA7.out.m.rat).mono ?_
          rintro e8 u8 ⟨⟨y, rfl, hu⟩, hx⟩
          have HA8 := Lib.hid (HA7.out.call hx)
          obtain rfl := UptoAll.one HU2.out hu
          clear hx hu HU2
          go_wp2_with fail
          refine hK.out _ _ (HA8.out.cells) (fun HS => ?_)
          clear hK
          try simp only [Act.put, List.setIfInBounds_toArray, List.set_cons_zero, List.set_cons_succ]
          refine handTake 25 (some 98) ?_ rfl rfl (by kernel_rfl) (by kernel_rfl) (by kernel_rfl) (fun _ _ _ h => h) (by rfl) ?_ HS ?_
          rotate_left
          · (intro u hu; (try dsimp only at hu); go_simp; try with_reducible rfl)
          simp only [Act.put, List.setIfInBounds_toArray, List.set_cons_zero, List.set_cons_succ]
          refine handTake 26 (some 99) ?_ rfl rfl (by kernel_rfl) (by kernel_rfl) (by kernel_rfl) (fun _ _ _ h => h) (by rfl) ?_ HS ?_
          rotate_left
          · (intro u hu; (try dsimp only at hu); go_simp; try with_reducible rfl)
          simp only [Act.put, List.setIfInBounds_toArray, List.set_cons_zero, List.set_cons_succ]
          refine wpAnyH_done (by kernel_rfl) ?_ _
          clear HS
          go_wp2_with fail
          go_roundw
          case rel => exact ⟨k + 1, noteS R n i r, v2, by omega, by go_num, HF2.out, HA8.out.t, HA8.out.m, HA8.out.below⟩
          case measure => simp [intOf]; omega
        · have m0 : ((kd : Int) % 4 == 0) = false := by rw [h4]; rfl
          have m1 : ((kd : Int) % 4 == 1) = false := by rw [h4]; rfl
          have m2 : ((kd : Int) % 4 == 2) = true := by rw [h4]; rfl
          have HA0 := HS
          clear HS
          go_wp2_with fail
          refine (drop_any (w.heap.size + 1) w.heap.size n HN0.out R HF.out.1 i _ HA0.out.t).mono ?_
          rintro e1 u1 ⟨rfl, ht, ho⟩
          have HA1 := Lib.hid (HA0.out.note HO.out ht ho)
          have hcells := HA1.out.cells
          clear ht ho c1 c2
          obtain ⟨c1, c2⟩ := hcells
          go_wp2_with fail
          refine (rdrop_any gr n R i HF.out.2 vr _ HA1.out.m).mono ?_
          rintro e2 u2 ⟨rfl, hm⟩
          obtain ⟨v2, hst⟩ := HA1.out.rnote HO.out hm
          have HA2 := Lib.hid hst
          have hcells := HA2.out.cells
          clear hst hm c1 c2
          obtain ⟨c1, c2⟩ := hcells
          go_wp2_with fail
          have HF2 := Lib.hid (fit_drop HF.out i)
          refine wp_region_held_drew (S := (fun u : World => u.cell? ⟨wr.heap.size, 1, none⟩ = some (.int .i64 i) ∧ u.cell? ⟨wr.heap.size, 2, none⟩ = some (.int .i64 r))) (by kernel_rfl) (HA2.out.drew.cells) (fun HS => ?_)
          refine handTake 0 (some 73) ?_ rfl rfl (by kernel_rfl) (by kernel_rfl) (by kernel_rfl) (fun _ _ _ h => h) (by rfl) ?_ HS ?_
          rotate_left
          · (intro u hu; (try dsimp only at hu); go_simp; try with_reducible rfl)
          simp only [Act.put, List.setIfInBounds_toArray, List.set_cons_zero, List.set_cons_succ]
          refine handTake 1 (some 74) ?_ rfl rfl (by kernel_rfl) (by kernel_rfl) (by kernel_rfl) (fun _ _ _ h => h) (by rfl) ?_ HS ?_
          rotate_left
          · (intro u hu; (try dsimp only at hu); go_simp; try with_reducible rfl)
          simp only [Act.put, List.setIfInBounds_toArray, List.set_cons_zero, List.set_cons_succ]
          refine handTake 2 (some 75) ?_ rfl rfl (by kernel_rfl) (by kernel_rfl) (by kernel_rfl) (fun _ _ _ h => h) (by rfl) ?_ HS ?_
          rotate_left
          · (intro u hu; (try dsimp only at hu); go_simp; try with_reducible rfl)
          simp only [Act.put, List.setIfInBounds_toArray, List.set_cons_zero, List.set_cons_succ]
          refine handTake 4 (some 77) ?_ rfl rfl (by kernel_rfl) (by kernel_rfl) (by kernel_rfl) (fun _ _ _ h => h) (by rfl) ?_ HS ?_
          rotate_left
          · (intro u hu; (try dsimp only at hu); go_simp; try with_reducible rfl)
          simp only [Act.put, List.setIfInBounds_toArray, List.set_cons_zero, List.set_cons_succ]
          refine handTake 5 (some 78) ?_ rfl rfl (by kernel_rfl) (by kernel_rfl) (by kernel_rfl) (fun _ _ _ h => h) (by rfl) ?_ HS ?_
          rotate_left
          · (intro u hu; (try dsimp only at hu); go_simp; try with_reducible rfl)
          simp only [Act.put, List.setIfInBounds_toArray, List.set_cons_zero, List.set_cons_succ]
          refine handTake 6 (some 79) ?_ rfl rfl (by kernel_rfl) (by kernel_rfl) (by kernel_rfl) (fun _ _ _ h => h) (by rfl) ?_ HS ?_
          rotate_left
          · (intro u hu; (try dsimp only at hu); go_simp; try with_reducible rfl)
          simp only [Act.put, List.setIfInBounds_toArray, List.set_cons_zero, List.set_cons_succ]
          refine wpAnyH_ready (rs := [3]) (by kernel_rfl) (by simp) ?_
          refine AllReadyH.cons rfl (fun K hK => ?_) AllReadyH.nil
          go_simp
          clear HS
          refine (count_any (w.heap.size + 1) w.heap.size n HN0.out (drop R i) HF2.out.1 i HI.out _ HA2.out.drew.t).mono ?_
          rintro e3 u3 ⟨rfl, hx⟩
          have HA3 := Lib.hid (HA2.out.drew.call hx)
          clear hx
          go_wp2_with fail
          refine hK.out _ _ (HA3.out.cells) (fun HS => ?_)
          clear hK
          try simp only [Act.put, List.setIfInBounds_toArray, List.set_cons_zero, List.set_cons_succ]
          refine wpAnyH_ready (rs := [7]) (by kernel_rfl) (by simp) ?_
          refine AllReadyH.cons rfl (fun K hK => ?_) AllReadyH.nil
          go_simp
          clear HS
          refine (rcount_any gr n (drop R i) HF2.out.1 i _ HA3.out.m.rat).mono ?_
          rintro e4 u4 ⟨rfl, hx⟩
          have HA4 := Lib.hid (HA3.out.call hx)
          clear hx
          go_wp2_with fail
          refine hK.out _ _ (HA4.out.cells) (fun HS => ?_)
          clear hK
          try simp only [Act.put, List.setIfInBounds_toArray, List.set_cons_zero, List.set_cons_succ]
          refine handTake 8 (some 81) ?_ rfl rfl (by kernel_rfl) (by kernel_rfl) (by kernel_rfl) (fun _ _ _ h => h) (by rfl) ?_ HS ?_
          rotate_left
          · (intro u hu; (try dsimp only at hu); go_simp; try with_reducible rfl)
          simp only [Act.put, List.setIfInBounds_toArray, List.set_cons_zero, List.set_cons_succ]
          refine handTake 9 (some 82) ?_ rfl rfl (by kernel_rfl) (by kernel_rfl) (by kernel_rfl) (fun _ _ _ h => h) (by rfl) ?_ HS ?_
          rotate_left
          · (intro u hu; (try dsimp only at hu); go_simp; try with_reducible rfl)
          simp only [Act.put, List.setIfInBounds_toArray, List.set_cons_zero, List.set_cons_succ]
          refine handTake 10 (some 83) ?_ rfl rfl (by kernel_rfl) (by kernel_rfl) (by kernel_rfl) (fun _ _ _ h => h) (by rfl) ?_ HS ?_
          rotate_left
          · (intro u hu; (try dsimp only at hu); go_simp; try with_reducible rfl)
          simp only [Act.put, List.setIfInBounds_toArray, List.set_cons_zero, List.set_cons_succ]
          refine handTake 11 (some 84) ?_ rfl rfl (by kernel_rfl) (by kernel_rfl) (by kernel_rfl) (fun _ _ _ h => h) (by rfl) ?_ HS ?_
          rotate_left
          · (intro u hu; (try dsimp only at hu); go_simp; try with_reducible rfl)
          simp only [Act.put, List.setIfInBounds_toArray, List.set_cons_zero, List.set_cons_succ]
          refine handTake 12 (some 85) ?_ rfl rfl (by kernel_rfl) (by kernel_rfl) (by kernel_rfl) (fun _ _ _ h => h) (by rfl) ?_ HS ?_
          rotate_left
          · (intro u hu; (try dsimp only at hu); go_simp; try with_reducible rfl)
          simp only [Act.put, List.setIfInBounds_toArray, List.set_cons_zero, List.set_cons_succ]
          refine handTake 14 (some 87) ?_ rfl rfl (by kernel_rfl) (by kernel_rfl) (by kernel_rfl) (fun _ _ _ h => h) (by rfl) ?_ HS ?_
          rotate_left
          · (intro u hu; (try dsimp only at hu); go_simp; try with_reducible rfl)
          simp only [Act.put, List.setIfInBounds_toArray, List.set_cons_zero, List.set_cons_succ]
          refine handTake 15 (some 88) ?_ rfl rfl (by kernel_rfl) (by kernel_rfl) (by kernel_rfl) (fun _ _ _ h => h) (by rfl) ?_ HS ?_
          rotate_left
          · (intro u hu; (try dsimp only at hu); go_simp; try with_reducible rfl)
          simp only [Act.put, List.setIfInBounds_toArray, List.set_cons_zero, List.set_cons_succ]
          refine handTake 16 (some 89) ?_ rfl rfl (by kernel_rfl) (by kernel_rfl) (by kernel_rfl) (fun _ _ _ h => h) (by rfl) ?_ HS ?_
          rotate_left
          · (intro u hu; (try dsimp only at hu); go_simp; try with_reducible rfl)
          simp only [Act.put, List.setIfInBounds_toArray, List.set_cons_zero, List.set_cons_succ]
          refine wpAnyH_ready (rs := [13]) (by kernel_rfl) (by simp) ?_
          refine AllReadyH.cons rfl (fun K hK => ?_) AllReadyH.nil
          go_simp
          clear HS
          refine (upto_every (w.heap.size + 1) w.heap.size n HN0.out (drop R i) HF2.out i _ HA4.out.t).mono ?_
          rintro e5 u5 ⟨⟨x, rfl, hu⟩, hx⟩
          have HA5 := Lib.hid (HA4.out.call hx)
          have HU1 := Lib.hid hu
          clear hx hu
          go_wp2_with fail
          refine hK.out _ _ (HA5.out.cells) (fun HS => ?_)
          clear hK
          try simp only [Act.put, List.setIfInBounds_toArray, List.set_cons_zero, List.set_cons_succ]
          refine wpAnyH_ready (rs := [17]) (by kernel_rfl) (by simp) ?_
          refine AllReadyH.cons rfl (fun K hK => ?_) AllReadyH.nil
          go_simp
          clear HS
          refine (rupto_every gr n HMP.out (drop R i) HF2.out i _ HA5.out.m.rat).mono ?_
          rintro e6 u6 ⟨⟨y, rfl, hu⟩, hx⟩
          have HA6 := Lib.hid (HA5.out.call hx)
          obtain rfl := UptoAll.one HU1.out hu
          clear hx hu HU1
          go_wp2_with fail
          refine hK.out _ _ (HA6.out.cells) (fun HS => ?_)
          clear hK
          try simp only [Act.put, List.setIfInBounds_toArray, List.set_cons_zero, List.set_cons_succ]
          refine handTake 18 (some 91) ?_ rfl rfl (by kernel_rfl) (by kernel_rfl) (by kernel_rfl) (fun _ _ _ h => h) (by rfl) ?_ HS ?_
          rotate_left
          · (intro u hu; (try dsimp only at hu); go_simp; try with_reducible rfl)
          simp only [Act.put, List.setIfInBounds_toArray, List.set_cons_zero, List.set_cons_succ]
          refine handTake 19 (some 92) ?_ rfl rfl (by kernel_rfl) (by kernel_rfl) (by kernel_rfl) (fun _ _ _ h => h) (by rfl) ?_ HS ?_
          rotate_left
          · (intro u hu; (try dsimp only at hu); go_simp; try with_reducible rfl)
          simp only [Act.put, List.setIfInBounds_toArray, List.set_cons_zero, List.set_cons_succ]
          refine handTake 20 (some 93) ?_ rfl rfl (by kernel_rfl) (by kernel_rfl) (by kernel_rfl) (fun _ _ _ h => h) (by rfl) ?_ HS ?_
          rotate_left
          · (intro u hu; (try dsimp only at hu); go_simp; try with_reducible rfl)
          simp only [Act.put, List.setIfInBounds_toArray, List.set_cons_zero, List.set_cons_succ]
          refine handTake 21 (some 94) ?_ rfl rfl (by kernel_rfl) (by kernel_rfl) (by kernel_rfl) (fun _ _ _ h => h) (by rfl) ?_ HS ?_
          rotate_left
          · (intro u hu; (try dsimp only at hu); go_simp; try with_reducible rfl)
          simp only [Act.put, List.setIfInBounds_toArray, List.set_cons_zero, List.set_cons_succ]
          refine handTake 23 (some 96) ?_ rfl rfl (by kernel_rfl) (by kernel_rfl) (by kernel_rfl) (fun _ _ _ h => h) (by rfl) ?_ HS ?_
          rotate_left
          · (intro u hu; (try dsimp only at hu); go_simp; try with_reducible rfl)
          simp only [Act.put, List.setIfInBounds_toArray, List.set_cons_zero, List.set_cons_succ]
          refine wpAnyH_ready (rs := [22]) (by kernel_rfl) (by simp) ?_
          refine AllReadyH.cons rfl (fun K hK => ?_) AllReadyH.nil
          go_simp
          clear HS
          refine (upto_every (w.heap.size + 1) w.heap.size n HN0.out (drop R i) HF2.out 0 _ HA6.out.t).mono ?_
          rintro e7 u7 ⟨⟨z, rfl, hu⟩, hx⟩
          have HA7 := Lib.hid (HA6.out.call hx)
          have HU2 := Lib.hid hu
          clear hx hu
          go_wp2_with fail
          refine hK.out _ _ (HA7.out.cells) (fun HS => ?_)
          clear hK
          try simp only [Act.put, List.setIfInBounds_toArray, List.set_cons_zero, List.set_cons_succ]
          refine wpAnyH_ready (rs := [24]) (by kernel_rfl) (by simp) ?_
          refine AllReadyH.cons rfl (fun K hK => ?_) AllReadyH.nil
          go_simp
          clear HS
          refine (rupto_every gr n HMP.out (drop R i) HF2.out 0 _ HA7.out.m.rat).mono ?_
          rintro e8 u8 ⟨⟨y, rfl, hu⟩, hx⟩
          have HA8 := Lib.hid (HA7.out.call hx)
          obtain rfl := UptoAll.one HU2.out hu
          clear hx hu HU2
          go_wp2_with fail
          refine hK.out _ _ (HA8.out.cells) (fun HS => ?_)
          clear hK
          try simp only [Act.put, List.setIfInBounds_toArray, List.set_cons_zero, List.set_cons_succ]
          refine handTake 25 (some 98) ?_ rfl rfl (by kernel_rfl) (by kernel_rfl) (by kernel_rfl) (fun _ _ _ h => h) (by rfl) ?_ HS ?_
          rotate_left
          · (intro u hu; (try dsimp only at hu); go_simp; try with_reducible rfl)
          simp only [Act.put, List.setIfInBounds_toArray, List.set_cons_zero, List.set_cons_succ]
          refine handTake 26 (some 99) ?_ rfl rfl (by kernel_rfl) (by kernel_rfl) (by kernel_rfl) (fun _ _ _ h => h) (by rfl) ?_ HS ?_
          rotate_left
          · (intro u hu; (try dsimp only at hu); go_simp; try with_reducible rfl)
          simp only [Act.put, List.setIfInBounds_toArray, List.set_cons_zero, List.set_cons_succ]
          refine wpAnyH_done (by kernel_rfl) ?_ _
          clear HS
          go_wp2_with fail
          go_roundw
          case rel => exact ⟨k + 1, drop R i, v2, by omega, by go_num, HF2.out, HA8.out.t, HA8.out.m, HA8.out.below⟩
          case measure => simp [intOf]; omega
        · have m0 : ((kd : Int) % 4 == 0) = false := by rw [h4]; rfl
          have m1 : ((kd : Int) % 4 == 1) = false := by rw [h4]; rfl
          have m2 : ((kd : Int) % 4 == 2) = false := by rw [h4]; rfl
          have HA0 := HS
          clear HS
          go_wp2_with fail
          refine wp_region_held_drew (S := (fun u : World => u.cell? ⟨wr.heap.size, 1, none⟩ = some (.int .i64 i) ∧ u.cell? ⟨wr.heap.size, 2, none⟩ = some (.int .i64 r))) (by kernel_rfl) (HA0.out.drew.cells) (fun HS => ?_)
          refine handTake 0 (some 73) ?_ rfl rfl (by kernel_rfl) (by kernel_rfl) (by kernel_rfl) (fun _ _ _ h => h) (by rfl) ?_ HS ?_
          rotate_left
          · (intro u hu; (try dsimp only at hu); go_simp; try with_reducible rfl)
          simp only [Act.put, List.setIfInBounds_toArray, List.set_cons_zero, List.set_cons_succ]
          refine handTake 1 (some 74) ?_ rfl rfl (by kernel_rfl) (by kernel_rfl) (by kernel_rfl) (fun _ _ _ h => h) (by rfl) ?_ HS ?_
          rotate_left
          · (intro u hu; (try dsimp only at hu); go_simp; try with_reducible rfl)
          simp only [Act.put, List.setIfInBounds_toArray, List.set_cons_zero, List.set_cons_succ]
          refine handTake 2 (some 75) ?_ rfl rfl (by kernel_rfl) (by kernel_rfl) (by kernel_rfl) (fun _ _ _ h => h) (by rfl) ?_ HS ?_
          rotate_left
          · (intro u hu; (try dsimp only at hu); go_simp; try with_reducible rfl)
          simp only [Act.put, List.setIfInBounds_toArray, List.set_cons_zero, List.set_cons_succ]
          refine handTake 4 (some 77) ?_ rfl rfl (by kernel_rfl) (by kernel_rfl) (by kernel_rfl) (fun _ _ _ h => h) (by rfl) ?_ HS ?_
          rotate_left
          · (intro u hu; (try dsimp only at hu); go_simp; try with_reducible rfl)
          simp only [Act.put, List.setIfInBounds_toArray, List.set_cons_zero, List.set_cons_succ]
          refine handTake 5 (some 78) ?_ rfl rfl (by kernel_rfl) (by kernel_rfl) (by kernel_rfl) (fun _ _ _ h => h) (by rfl) ?_ HS ?_
          rotate_left
          · (intro u hu; (try dsimp only at hu); go_simp; try with_reducible rfl)
          simp only [Act.put, List.setIfInBounds_toArray, List.set_cons_zero, List.set_cons_succ]
          refine handTake 6 (some 79) ?_ rfl rfl (by kernel_rfl) (by kernel_rfl) (by kernel_rfl) (fun _ _ _ h => h) (by rfl) ?_ HS ?_
          rotate_left
          · (intro u hu; (try dsimp only at hu); go_simp; try with_reducible rfl)
          simp only [Act.put, List.setIfInBounds_toArray, List.set_cons_zero, List.set_cons_succ]
          refine wpAnyH_ready (rs := [3]) (by kernel_rfl) (by simp) ?_
          refine AllReadyH.cons rfl (fun K hK => ?_) AllReadyH.nil
          go_simp
          clear HS
          refine (count_any (w.heap.size + 1) w.heap.size n HN0.out (R) HF.out.1 i HI.out _ HA0.out.drew.t).mono ?_
          rintro e1 u1 ⟨rfl, hx⟩
          have HA1 := Lib.hid (HA0.out.drew.call hx)
          clear hx
          go_wp2_with fail
          refine hK.out _ _ (HA1.out.cells) (fun HS => ?_)
          clear hK
          try simp only [Act.put, List.setIfInBounds_toArray, List.set_cons_zero, List.set_cons_succ]
          refine wpAnyH_ready (rs := [7]) (by kernel_rfl) (by simp) ?_
          refine AllReadyH.cons rfl (fun K hK => ?_) AllReadyH.nil
          go_simp
          clear HS
          refine (rcount_any gr n (R) HF.out.1 i _ HA1.out.m.rat).mono ?_
          rintro e2 u2 ⟨rfl, hx⟩
          have HA2 := Lib.hid (HA1.out.call hx)
          clear hx
          go_wp2_with fail
          refine hK.out _ _ (HA2.out.cells) (fun HS => ?_)
          clear hK
          try simp only [Act.put, List.setIfInBounds_toArray, List.set_cons_zero, List.set_cons_succ]
          refine handTake 8 (some 81) ?_ rfl rfl (by kernel_rfl) (by kernel_rfl) (by kernel_rfl) (fun _ _ _ h => h) (by rfl) ?_ HS ?_
          rotate_left
          · (intro u hu; (try dsimp only at hu); go_simp; try with_reducible rfl)
          simp only [Act.put, List.setIfInBounds_toArray, List.set_cons_zero, List.set_cons_succ]
          refine handTake 9 (some 82) ?_ rfl rfl (by kernel_rfl) (by kernel_rfl) (by kernel_rfl) (fun _ _ _ h => h) (by rfl) ?_ HS ?_
          rotate_left
          · (intro u hu; (try dsimp only at hu); go_simp; try with_reducible rfl)
          simp only [Act.put, List.setIfInBounds_toArray, List.set_cons_zero, List.set_cons_succ]
          refine handTake 10 (some 83) ?_ rfl rfl (by kernel_rfl) (by kernel_rfl) (by kernel_rfl) (fun _ _ _ h => h) (by rfl) ?_ HS ?_
          rotate_left
          · (intro u hu; (try dsimp only at hu); go_simp; try with_reducible rfl)
          simp only [Act.put, List.setIfInBounds_toArray, List.set_cons_zero, List.set_cons_succ]
          refine handTake 11 (some 84) ?_ rfl rfl (by kernel_rfl) (by kernel_rfl) (by kernel_rfl) (fun _ _ _ h => h) (by rfl) ?_ HS ?_
          rotate_left
          · (intro u hu; (try dsimp only at hu); go_simp; try with_reducible rfl)
          simp only [Act.put, List.setIfInBounds_toArray, List.set_cons_zero, List.set_cons_succ]
          refine handTake 12 (some 85) ?_ rfl rfl (by kernel_rfl) (by kernel_rfl) (by kernel_rfl) (fun _ _ _ h => h) (by rfl) ?_ HS ?_
          rotate_left
          · (intro u hu; (try dsimp only at hu); go_simp; try with_reducible rfl)
          simp only [Act.put, List.setIfInBounds_toArray, List.set_cons_zero, List.set_cons_succ]
          refine handTake 14 (some 87) ?_ rfl rfl (by kernel_rfl) (by kernel_rfl) (by kernel_rfl) (fun _ _ _ h => h) (by rfl) ?_ HS ?_
          rotate_left
          · (intro u hu; (try dsimp only at hu); go_simp; try with_reducible rfl)
          simp only [Act.put, List.setIfInBounds_toArray, List.set_cons_zero, List.set_cons_succ]
          refine handTake 15 (some 88) ?_ rfl rfl (by kernel_rfl) (by kernel_rfl) (by kernel_rfl) (fun _ _ _ h => h) (by rfl) ?_ HS ?_
          rotate_left
          · (intro u hu; (try dsimp only at hu); go_simp; try with_reducible rfl)
          simp only [Act.put, List.setIfInBounds_toArray, List.set_cons_zero, List.set_cons_succ]
          refine handTake 16 (some 89) ?_ rfl rfl (by kernel_rfl) (by kernel_rfl) (by kernel_rfl) (fun _ _ _ h => h) (by rfl) ?_ HS ?_
          rotate_left
          · (intro u hu; (try dsimp only at hu); go_simp; try with_reducible rfl)
          simp only [Act.put, List.setIfInBounds_toArray, List.set_cons_zero, List.set_cons_succ]
          refine wpAnyH_ready (rs := [13]) (by kernel_rfl) (by simp) ?_
          refine AllReadyH.cons rfl (fun K hK => ?_) AllReadyH.nil
          go_simp
          clear HS
          refine (upto_every (w.heap.size + 1) w.heap.size n HN0.out (R) HF.out i _ HA2.out.t).mono ?_
          rintro e3 u3 ⟨⟨x, rfl, hu⟩, hx⟩
          have HA3 := Lib.hid (HA2.out.call hx)
          have HU1 := Lib.hid hu
          clear hx hu
          go_wp2_with fail
          refine hK.out _ _ (HA3.out.cells) (fun HS => ?_)
          clear hK
          try simp only [Act.put, List.setIfInBounds_toArray, List.set_cons_zero, List.set_cons_succ]
          refine wpAnyH_ready (rs := [17]) (by kernel_rfl) (by simp) ?_
          refine AllReadyH.cons rfl (fun K hK => ?_) AllReadyH.nil
          go_simp
          clear HS
          refine (rupto_every gr n HMP.out (R) HF.out i _ HA3.out.m.rat).mono ?_
          rintro e4 u4 ⟨⟨y, rfl, hu⟩, hx⟩
          have HA4 := Lib.hid (HA3.out.call hx)
          obtain rfl := UptoAll.one HU1.out hu
          clear hx hu HU1
          go_wp2_with fail
          refine hK.out _ _ (HA4.out.cells) (fun HS => ?_)
          clear hK
          try simp only [Act.put, List.setIfInBounds_toArray, List.set_cons_zero, List.set_cons_succ]
          refine handTake 18 (some 91) ?_ rfl rfl (by kernel_rfl) (by kernel_rfl) (by kernel_rfl) (fun _ _ _ h => h) (by rfl) ?_ HS ?_
          rotate_left
          · (intro u hu; (try dsimp only at hu); go_simp; try with_reducible rfl)
          simp only [Act.put, List.setIfInBounds_toArray, List.set_cons_zero, List.set_cons_succ]
          refine handTake 19 (some 92) ?_ rfl rfl (by kernel_rfl) (by kernel_rfl) (by kernel_rfl) (fun _ _ _ h => h) (by rfl) ?_ HS ?_
          rotate_left
          · (intro u hu; (try dsimp only at hu); go_simp; try with_reducible rfl)
          simp only [Act.put, List.setIfInBounds_toArray, List.set_cons_zero, List.set_cons_succ]
          refine handTake 20 (some 93) ?_ rfl rfl (by kernel_rfl) (by kernel_rfl) (by kernel_rfl) (fun _ _ _ h => h) (by rfl) ?_ HS ?_
          rotate_left
          · (intro u hu; (try dsimp only at hu); go_simp; try with_reducible rfl)
          simp only [Act.put, List.setIfInBounds_toArray, List.set_cons_zero, List.set_cons_succ]
          refine handTake 21 (some 94) ?_ rfl rfl (by kernel_rfl) (by kernel_rfl) (by kernel_rfl) (fun _ _ _ h => h) (by rfl) ?_ HS ?_
          rotate_left
          · (intro u hu; (try dsimp only at hu); go_simp; try with_reducible rfl)
          simp only [Act.put, List.setIfInBounds_toArray, List.set_cons_zero, List.set_cons_succ]
          refine handTake 23 (some 96) ?_ rfl rfl (by kernel_rfl) (by kernel_rfl) (by kernel_rfl) (fun _ _ _ h => h) (by rfl) ?_ HS ?_
          rotate_left
          · (intro u hu; (try dsimp only at hu); go_simp; try with_reducible rfl)
          simp only [Act.put, List.setIfInBounds_toArray, List.set_cons_zero, List.set_cons_succ]
          refine wpAnyH_ready (rs := [22]) (by kernel_rfl) (by simp) ?_
          refine AllReadyH.cons rfl (fun K hK => ?_) AllReadyH.nil
          go_simp
          clear HS
          refine (upto_every (w.heap.size + 1) w.heap.size n HN0.out (R) HF.out 0 _ HA4.out.t).mono ?_
          rintro e5 u5 ⟨⟨z, rfl, hu⟩, hx⟩
          have HA5 := Lib.hid (HA4.out.call hx)
          have HU2 := Lib.hid hu
          clear hx hu
          go_wp2_with fail
          refine hK.out _ _ (HA5.out.cells) (fun HS => ?_)
          clear hK
          try simp only [Act.put, List.setIfInBounds_toArray, List.set_cons_zero, List.set_cons_succ]
          refine wpAnyH_ready (rs := [24]) (by kernel_rfl) (by simp) ?_
          refine AllReadyH.cons rfl (fun K hK => ?_) AllReadyH.nil
          go_simp
          clear HS
          refine (rupto_every gr n HMP.out (R) HF.out 0 _ HA5.out.m.rat).mono ?_
          rintro e6 u6 ⟨⟨y, rfl, hu⟩, hx⟩
          have HA6 := Lib.hid (HA5.out.call hx)
          obtain rfl := UptoAll.one HU2.out hu
          clear hx hu HU2
          go_wp2_with fail
          refine hK.out _ _ (HA6.out.cells) (fun HS => ?_)
          clear hK
          try simp only [Act.put, List.setIfInBounds_toArray, List.set_cons_zero, List.set_cons_succ]
          refine handTake 25 (some 98) ?_ rfl rfl (by kernel_rfl) (by kernel_rfl) (by kernel_rfl) (fun _ _ _ h => h) (by rfl) ?_ HS ?_
          rotate_left
          · (intro u hu; (try dsimp only at hu); go_simp; try with_reducible rfl)
          simp only [Act.put, List.setIfInBounds_toArray, List.set_cons_zero, List.set_cons_succ]
          refine handTake 26 (some 99) ?_ rfl rfl (by kernel_rfl) (by kernel_rfl) (by kernel_rfl) (fun _ _ _ h => h) (by rfl) ?_ HS ?_
          rotate_left
          · (intro u hu; (try dsimp only at hu); go_simp; try with_reducible rfl)
          simp only [Act.put, List.setIfInBounds_toArray, List.set_cons_zero, List.set_cons_succ]
          refine wpAnyH_done (by kernel_rfl) ?_ _
          clear HS
          go_wp2_with fail
          go_roundw
          case rel => exact ⟨k + 1, R, vr, by omega, by go_num, HF.out, HA6.out.t, HA6.out.m, HA6.out.below⟩
          case measure => simp [intOf]; omega
      · go_wp2_with fail
        go_ret
        exact ⟨rfl, hx⟩

end Ta
end Go.Proofs.Ytmpcjiacgbcpdaa
