/- The law ChooseTurned, walked. -/
import Derived.Test.YtpgejomhcojppaaChooseMore
set_option linter.unusedSimpArgs false
set_option linter.unusedVariables false
namespace Go.Proofs.Ytpgejomhcojppaa
open Go.RowKit
namespace Ch
open Bl Qm
attribute [local go_sem ↓] eql_en neq_en Bl.eql_ba Bl.neq_ba
def atN (N q : Nat) (back : Bool) (i : Nat) : Nat := if back then N - 1 - (q + i) % N else (q + i) % N
def trn (N q : Nat) (back : Bool) (L : List Rp) (i : Nat) : List Rp := (List.range i).map fun i => L.getD (atN N q back i) zeroRp
theorem trn_next (N q : Nat) (back : Bool) (L : List Rp) (i : Nat) (h : atN N q back i < L.length) : trn N q back L (i + 1) = trn N q back L i ++ [L[atN N q back i]] := by
  unfold trn
  rw [List.range_succ, List.map_append, List.map_singleton, List.getD_eq_getElem?_getD, List.getElem?_eq_getElem h]
  rfl
theorem trn_len (N q : Nat) (back : Bool) (L : List Rp) (i : Nat) : (trn N q back L i).length = i := by unfold trn; simp
theorem at_perm : ∀ N ∈ [3, 5, 7], ∀ q < N, ∀ back : Bool, ((List.range N).map (atN N q back)).Perm (List.range N) := by decide +kernel
theorem trn_perm (N q : Nat) (back : Bool) (L : List Rp) (hN : N = 3 ∨ N = 5 ∨ N = 7) (hq : q < N) (hL : L.length = N) : L.Perm (trn N q back L N) := by
  have h := (at_perm N (by simp; exact hN) q hq back).map fun i => L.getD i zeroRp
  rw [List.map_map] at h
  have e : (List.range N).map (fun i => L.getD i zeroRp) = L := by
    apply List.ext_getElem
    · simp [hL]
    · intro i h1 h2
      simp [List.getD_eq_getElem?_getD, List.getElem?_eq_getElem h2]
  rw [e] at h
  exact h.symm
theorem turn_nums (q i k r : Nat) (hq0 : (0 : Int) ≤ (q : Int)) (hq1 : (q : Int) < (k : Int)) (hi0 : (0 : Int) ≤ (i : Int)) (hi1 : (i : Int) < (k : Int)) (hk : k ≤ 7) (hr : (q + i) % k = r) :
    wrap64 ((q : Int) + (i : Int)) = (q : Int) + (i : Int) ∧ IntKind.i64.wrap ((q : Int) + (i : Int)) = (q : Int) + (i : Int) ∧ ((q : Int) + (i : Int)).tmod (k : Int) = (r : Int) := by
  refine ⟨by unfold wrap64; omega, by rw [IntKind.wrap_i64]; omega, ?_⟩
  rw [Int.tmod_eq_emod_of_nonneg (by omega), ← hr, Int.natCast_emod, Int.natCast_add]
def Same2 (x y : Rp) : Prop := x.st = 2 → y.st = 2 → x.b = y.b → x.e = y.e
set_option maxRecDepth 100000 in
set_option maxHeartbeats 16000000 in
theorem turned_false (n : Int) (L : List Rp) (v : Value) (frm : Int) (w : World) (hr : Row w w.heap.size v L.length (L.flatMap rpC)) :
    Calls Try.prog 8 #[.int .i64 n, v, .int .i64 frm, .bool false] w fun e w' => e = .returned (.bool true) ∧ Below w.heap.size w w' := by
  obtain ⟨A, c, rfl, _, _⟩ := hr.slice
  have hbd := hr.bound
  have AW := Lib.hid (awake_is w)
  have HMY := Lib.hid (fun (u : World) (h : Row u u.heap.size (.slice A L.length c) L.length (L.flatMap rpC)) => may_is n L (.slice A L.length c) u.heap.size u h)
  cases hb : badB n L
  · obtain ⟨hn357, hnL, _⟩ := not_bad hb
    obtain ⟨N, hN⟩ : ∃ N, L.length = N := ⟨_, rfl⟩
    have hnN : n = (N : Int) := by omega
    subst hnN
    have hN357 : N = 3 ∨ N = 5 ∨ N = 7 := by omega
    obtain ⟨q, hqN, hq⟩ := mod_of frm N hN357
    have hN7 : N ≤ 7 := by omega
    have hN0 : 0 < N := by omega
    have hwN : IntKind.u64.wrap (N : Int) = (N : Int) := by rw [IntKind.wrap_u64]; omega
    have hNz : ¬ (N : Int) = 0 := by omega
    have hq0 : (0 : Int) ≤ (q : Int) := by omega
    have hq1 : (q : Int) < (N : Int) := by omega
    obtain ⟨b, o, rfl, hbw, hcell⟩ := row_all hr (by omega)
    have HC := Lib.hid hcell
    have HN := Lib.hid hN
    have HPM := Lib.hid (trn_perm N q false L hN357 hqN hN)
    have HR0 := Lib.hid hr
    obtain ⟨i0, hi, hz0, hz1, hz2⟩ := info_parts info_rp
    rw [hb, hN] at HMY
    rw [hN] at hbd hr ⊢
    clear hcell hnL hn357 hN357 hb hN
    have HB_w := Lib.hid (Below.refl w.heap.size w)
    have R_L_w : Hid (Row w w.heap.size (.slice (some ⟨b, o, none⟩) N c) N (L.flatMap rpC)) := hr
    clear hr
    go_enter Try.func8, Try.ntmps8
    go_wp2_with fail
    refine (AW.out).mono ?_
    rintro e x1 ⟨rfl, hx⟩
    clear AW
    have HB_x1 := Lib.hid (HB_w.out.trans (Below.mono hx (HB_w.out.size)))
    have R_L_x1 : Hid (Row x1 x1.heap.size (.slice (some ⟨b, o, none⟩) N c) N (L.flatMap rpC)) := (R_L_w.out.below hx).more (Below.size hx)
    clear hx HB_w R_L_w
    go_wp2_with fail
    have MY := HMY.out _ R_L_x1.out
    refine MY.mono ?_
    rintro e u ⟨rfl, rfl⟩
    clear MY HMY
    clear R_L_x1
    go_wp2_with fail
    try rw [hq]
    clear hq
    go_loopw [9, 10] (fun tv iv wr => ∃ i : Nat, i ≤ N ∧ iv = .int .i64 i ∧ wr.ownsRow w.heap.size 33 11 tv i ((trn N q false L i).flatMap rpC) ∧ (∀ x ∈ L.take i, ∀ y ∈ L, Same2 x y) ∧ Below w.heap.size w wr) (fun _ iv _ => N - (intOf iv).toNat)
    case atStart => exact ⟨0, Nat.zero_le _, rfl, ⟨rfl, .inl ⟨rfl, rfl⟩⟩, by simp, HB_x1.out⟩
    case round =>
      obtain ⟨i, hile, rfl, hown, hall, hx⟩ := hrel
      have HXI := Lib.hid hx
      have zs := hx.size
      have HALL := Lib.hid hall
      obtain ⟨Ao, co, rfl, _, _⟩ := (Row.of_own hown).slice
      have HO := Lib.hid hown
      clear hx hall hown
      have hi0 : (0 : Int) ≤ (i : Int) := by omega
      by_cases hlt : i < N
      · have hl : i < L.length := by rw [HN.out]; exact hlt
        have hi1 : (i : Int) < (N : Int) := by omega
        have CI := Lib.hid (HC.out i hl)
        have HNX : Hid ((∀ y ∈ L, Same2 L[i] y) → ∀ x ∈ L.take (i + 1), ∀ y ∈ L, Same2 x y) := fun h x hx => by
          rw [List.take_succ_eq_append_getElem hl, List.mem_append, List.mem_singleton] at hx
          rcases hx with hx | rfl
          · exact HALL.out x hx
          · exact h
        generalize L[i] = x at CI HNX
        obtain ⟨xi, xs, ⟨xr, xp⟩, ⟨ek, ec, eq, ⟨ok, oa, ob, oc⟩⟩⟩ := x
        clear HALL
        go_wp2_with fail
        go_loopw [11] (fun kv wq => ∃ k : Nat, k ≤ N ∧ kv = .int .i64 k ∧ (∀ y ∈ L.take k, Same2 ⟨xi, xs, ⟨xr, xp⟩, ⟨ek, ec, eq, ⟨ok, oa, ob, oc⟩⟩⟩ y) ∧ Below wr.heap.size wr wq) (fun kv _ => N - (intOf kv).toNat)
        case atStart => exact ⟨0, Nat.zero_le _, rfl, by simp, Below.refl _ _⟩
        case round =>
          obtain ⟨k, hkle, rfl, hall, hx⟩ := hrel
          have HXQ := Lib.hid hx
          have HBQ := Lib.hid (HXI.out.trans (hx.mono zs))
          have HALL := Lib.hid hall
          have zq := HBQ.out.size
          clear hx hall
          have hk0 : (0 : Int) ≤ (k : Int) := by omega
          by_cases hkl : k < N
          · have hl2 : k < L.length := by rw [HN.out]; exact hkl
            have hk1 : (k : Int) < (N : Int) := by omega
            have CK := Lib.hid (HC.out k hl2)
            have HNK : Hid (Same2 ⟨xi, xs, ⟨xr, xp⟩, ⟨ek, ec, eq, ⟨ok, oa, ob, oc⟩⟩⟩ L[k] → ∀ y ∈ L.take (k + 1), Same2 ⟨xi, xs, ⟨xr, xp⟩, ⟨ek, ec, eq, ⟨ok, oa, ob, oc⟩⟩⟩ y) := fun h y hy => by
              rw [List.take_succ_eq_append_getElem hl2, List.mem_append, List.mem_singleton] at hy
              rcases hy with hy | rfl
              · exact HALL.out y hy
              · exact h
            generalize L[k] = y at CK HNK
            obtain ⟨yi, ys, ⟨yr, yp⟩, ⟨gk, gc, gq, ⟨qk, qa, qb, qc⟩⟩⟩ := y
            have hyx := CI.out _ HBQ.out
            have hyy := CK.out _ HBQ.out
            have y1 := hyx 1 _ rfl; have z1 := hyy 1 _ rfl; have y2 := hyx 2 _ rfl; have z2 := hyy 2 _ rfl; have y3 := hyx 3 _ rfl; have z3 := hyy 3 _ rfl; have y4 := hyx 4 _ rfl; have z4 := hyy 4 _ rfl; have y5 := hyx 5 _ rfl; have z5 := hyy 5 _ rfl; have y6 := hyx 6 _ rfl; have z6 := hyy 6 _ rfl; have y7 := hyx 7 _ rfl; have z7 := hyy 7 _ rfl; have y8 := hyx 8 _ rfl; have z8 := hyy 8 _ rfl; have y9 := hyx 9 _ rfl; have z9 := hyy 9 _ rfl; have y10 := hyx 10 _ rfl; have z10 := hyy 10 _ rfl
            dsimp only at y1 z1 y2 z2 y3 z3 y4 z4 y5 z5 y6 z6 y7 z7 y8 z8 y9 z9 y10 z10
            clear hyx hyy
            by_cases h1 : xs = 2
            · subst h1
              by_cases h2 : ys = 2
              · subst h2
                cases h3 : sameB ⟨xr, xp⟩ ⟨yr, yp⟩
                · have H3 := Lib.hid h3
                  go_wp2_with fail
                  go_quiet (fail)
                  go_wp2_with fail
                  go_roundw
                  case rel => exact ⟨k + 1, by omega, by go_num, HNK.out (fun _ _ h => absurd h (same_not.1 H3.out)), below_drewN HXQ.out _⟩
                  case measure => show N - ((k : Int) + 1).toNat < N - (k : Int).toNat; omega
                · cases h4 : eqE (ek : Nat) ec eq (ok : Nat) oa ob oc (gk : Nat) gc gq (qk : Nat) qa qb qc
                  · go_wp2_with fail
                    go_quiet (fail)
                    go_wp2_with fail
                    go_ret
                    exact ⟨rfl, below_drewN HBQ.out _⟩
                  · have H4 := Lib.hid h4
                    go_wp2_with fail
                    go_quiet (fail)
                    go_wp2_with fail
                    go_roundw
                    case rel => exact ⟨k + 1, by omega, by go_num, HNK.out (fun _ _ _ => sameE_iff.1 H4.out), below_drewN HXQ.out _⟩
                    case measure => show N - ((k : Int) + 1).toNat < N - (k : Int).toNat; omega
              · have hne : ((ys : Int) == 2) = false := by simp; omega
                have H2 := Lib.hid h2
                clear h2
                go_wp2_with fail
                go_quiet (fail)
                go_wp2_with fail
                go_roundw
                case rel => exact ⟨k + 1, by omega, by go_num, HNK.out (fun _ h _ => absurd h H2.out), below_drewN HXQ.out _⟩
                case measure => show N - ((k : Int) + 1).toNat < N - (k : Int).toNat; omega
            · have hne : ((xs : Int) == 2) = false := by simp; omega
              have H1 := Lib.hid h1
              clear h1
              go_wp2_with fail
              go_quiet (fail)
              go_wp2_with fail
              go_roundw
              case rel => exact ⟨k + 1, by omega, by go_num, HNK.out (fun h _ _ => absurd h H1.out), below_drewN HXQ.out _⟩
              case measure => show N - ((k : Int) + 1).toNat < N - (k : Int).toNat; omega
          · have e : k = N := by omega
            subst e
            have hE : L.take k = L := by rw [← HN.out, List.take_length]
            have hall := HALL.out
            rw [hE] at hall
            have HNX2 := Lib.hid (HNX.out hall)
            clear hE hall HNX HALL CI
            obtain ⟨r, hr⟩ : ∃ r, (q + i) % k = r := ⟨_, rfl⟩
            have hrk : r < k := by rw [← hr]; exact Nat.mod_lt _ (by omega)
            obtain ⟨hw1, hw2, ht⟩ := turn_nums q i k r hq0 hq1 hi0 hi1 hN7 hr
            have hr0 : (0 : Int) ≤ (r : Int) := by omega
            have hr1 : (r : Int) < (k : Int) := by omega
            have hat : atN k q false i = r := by unfold atN; rw [if_neg (by simp)]; exact hr
            have hsL : r < L.length := by rw [HN.out]; omega
            have HTN : Hid (trn k q false L (i + 1) = trn k q false L i ++ [L[r]]) := by
              show trn k q false L (i + 1) = _
              rw [trn_next k q false L i (by rw [hat]; exact hsL)]
              simp only [hat]
            have hy := HC.out r hsL wr HBQ.out
            have y0 := hy 0 _ rfl
            have y1 := hy 1 _ rfl
            have y2 := hy 2 _ rfl
            have y3 := hy 3 _ rfl
            have y4 := hy 4 _ rfl
            have y5 := hy 5 _ rfl
            have y6 := hy 6 _ rfl
            have y7 := hy 7 _ rfl
            have y8 := hy 8 _ rfl
            have y9 := hy 9 _ rfl
            have y10 := hy 10 _ rfl
            simp only [Nat.add_zero] at y0
            clear hy hat hr
            generalize L[r] = x at HTN y0 y1 y2 y3 y4 y5 y6 y7 y8 y9 y10
            obtain ⟨xi, xs, ⟨xr, xp⟩, ⟨ek, ec, eq, ⟨ok, oa, ob, oc⟩⟩⟩ := x
            dsimp only at y0 y1 y2 y3 y4 y5 y6 y7 y8 y9 y10
            have HX6 := Lib.hid (rpC_one ⟨xi, xs, ⟨xr, xp⟩, ⟨ek, ec, eq, ⟨ok, oa, ob, oc⟩⟩⟩)
            have HO2 := Lib.hid (own_below HO.out HXQ.out)
            clear HO
            go_wp2_with (at_builtin
                         refine wpList_append_foot _ rfl (.tmp 91) (.tmp 96) _ rfl w.heap.size 33 i0 _ 11 112 Try.underlying22 hi hz0 hz1 hz2 rfl (by decide) _ i ((trn k q false L i).flatMap rpC) rfl (HO2.out.alloc _) (wr.heap.size + 1) _ 1 (rpC ⟨xi, xs, ⟨xr, xp⟩, ⟨ek, ec, eq, ⟨ok, oa, ob, oc⟩⟩⟩) rfl (Row.blk (wh0_1 wr 33 (rpC ⟨xi, xs, ⟨xr, xp⟩, ⟨ek, ec, eq, ⟨ok, oa, ob, oc⟩⟩⟩)) rfl (by omega) (by unfold maxLen; omega)) rfl HX6.out (by unfold maxLen; omega) (by omega) (by simp; omega) ?_
                         intro v7 w7 hown7 hg7 hv7
                         have HB7 := Lib.hid (below_grown _ (HO2.out.alloc _) (by simp; omega) hg7)
                         have HO7 := Lib.hid hown7
                         clear hown7 hg7 hv7)
            refine ⟨⟨i + 1, by omega, by go_num, ?_, HNX2.out, (HBQ.out.alloc zq _).trans HB7.out⟩, by simp [intOf]; omega⟩
            rw [HTN.out, List.flatMap_append]
            have h := HO7.out
            simpa using h
      · have e : i = N := by omega
        subst e
        have hE : L.take i = L := by rw [← HN.out, List.take_length]
        have hall := HALL.out
        rw [hE] at hall
        have hd := turned_plain (n := (i : Int)) HPM.out (fun x hx y hy => hall x hx y hy)
        have HRI : Row wr wr.heap.size (.slice (some ⟨b, o, none⟩) i c) i (L.flatMap rpC) := by
          have h := HR0.out
          rw [HN.out] at h
          exact (h.below HXI.out).more zs
        obtain ⟨⟨k1, ⟨sk, sc, sq, ⟨so, sx, sy, sz⟩⟩, f1⟩, hd1⟩ : ∃ d, decR (i : Int) L = d := ⟨_, rfl⟩
        rw [hd1] at hd
        have D1 := dec_any _ L hd1 (.slice (some ⟨b, o, none⟩) L.length c) wr (by rw [HN.out]; exact HRI)
        have D2 := dec_any _ (trn i q false L i) hd.symm (.slice Ao i co)
        rw [trn_len] at D2
        simp only [enC] at D1 D2
        rw [HN.out] at D1
        have D1 := Lib.hid D1
        have D2 := Lib.hid D2
        have HRT := Lib.hid (Row.of_own HO.out)
        have QE := eqE_self (sk : Nat) sc sq (so : Nat) sx sy sz
        clear hE hall hd hd1 HRI HALL HPM
        go_wp2_with fail
        refine D1.out.mono ?_
        rintro e u2 ⟨rfl, hx⟩
        have HX2 := Lib.hid (HXI.out.trans (hx.mono zs))
        have z2 := HX2.out.size
        have HRT2 := Lib.hid ((HRT.out.below hx).more hx.size)
        clear hx D1
        obtain ⟨x3, hx3⟩ : ∃ u : World, u = u2.alloc (.cells #[.int .u8 (sk : Nat), .int .i64 sc, .int .i64 sq, .int .u8 (so : Nat), .string sx, .string sy, .string sz] 31) := ⟨_, rfl⟩
        have EX : Hid (Whole x3 u2.heap.size 31 [.int .u8 (sk : Nat), .int .i64 sc, .int .i64 sq, .int .u8 (so : Nat), .string sx, .string sy, .string sz]) := by rw [hx3]; exact Whole.new u2 _ _
        have HX3 : Hid (Below w.heap.size w x3) := by rw [hx3]; exact HX2.out.alloc z2 _
        have HRT3 : Hid (Row x3 x3.heap.size (.slice Ao i co) i ((trn i q false L i).flatMap rpC)) := by
          have hx : Below u2.heap.size u2 x3 := by rw [hx3]; exact be1 u2 _
          exact (HRT2.out.below hx).more hx.size
        go_wp2_with fail
        rw [← hx3]
        clear hx3
        refine (D2.out _ HRT3.out).mono ?_
        rintro e u4 ⟨rfl, hx⟩
        have HX4 := Lib.hid (HX3.out.trans (hx.mono HX3.out.size))
        have hec := EX.out.below hx EX.out.lt
        have le := hec.lt
        have e0 := hec.cell 0; have e1 := hec.cell 1; have e2 := hec.cell 2; have e3 := hec.cell 3; have e4 := hec.cell 4; have e5 := hec.cell 5; have e6 := hec.cell 6
        simp only [List.getElem?_cons_zero, List.getElem?_cons_succ] at e0 e1 e2 e3 e4 e5 e6
        have HX5 : Hid (Below w.heap.size w (u4.alloc (.cells #[.int .u8 (sk : Nat), .int .i64 sc, .int .i64 sq, .int .u8 (so : Nat), .string sx, .string sy, .string sz] 31))) := Lib.hid (HX4.out.alloc HX4.out.size _)
        clear hx hec D2
        go_wp2_with fail
        go_ret
        exact ⟨by simp, HX5.out⟩
  · rw [hb] at HMY
    generalize hN : L.length = N at *
    clear hN hb
    have HB_w := Lib.hid (Below.refl w.heap.size w)
    have R_L_w : Hid (Row w w.heap.size (.slice A N c) N (L.flatMap rpC)) := hr
    clear hr
    go_enter Try.func8, Try.ntmps8
    go_wp2_with fail
    refine (AW.out).mono ?_
    rintro e x1 ⟨rfl, hx⟩
    clear AW
    have HB_x1 := Lib.hid (HB_w.out.trans (Below.mono hx (HB_w.out.size)))
    have R_L_x1 : Hid (Row x1 x1.heap.size (.slice A N c) N (L.flatMap rpC)) := (R_L_w.out.below hx).more (Below.size hx)
    clear hx HB_w R_L_w
    go_wp2_with fail
    have MY := HMY.out _ R_L_x1.out
    refine MY.mono ?_
    rintro e u ⟨rfl, rfl⟩
    clear MY HMY
    go_wp2_with fail
    go_ret
    exact ⟨rfl, HB_x1.out⟩
set_option maxRecDepth 100000 in
set_option maxHeartbeats 16000000 in
theorem turned_true (n : Int) (L : List Rp) (v : Value) (frm : Int) (w : World) (hr : Row w w.heap.size v L.length (L.flatMap rpC)) :
    Calls Try.prog 8 #[.int .i64 n, v, .int .i64 frm, .bool true] w fun e w' => e = .returned (.bool true) ∧ Below w.heap.size w w' := by
  obtain ⟨A, c, rfl, _, _⟩ := hr.slice
  have hbd := hr.bound
  have AW := Lib.hid (awake_is w)
  have HMY := Lib.hid (fun (u : World) (h : Row u u.heap.size (.slice A L.length c) L.length (L.flatMap rpC)) => may_is n L (.slice A L.length c) u.heap.size u h)
  cases hb : badB n L
  · obtain ⟨hn357, hnL, _⟩ := not_bad hb
    obtain ⟨N, hN⟩ : ∃ N, L.length = N := ⟨_, rfl⟩
    have hnN : n = (N : Int) := by omega
    subst hnN
    have hN357 : N = 3 ∨ N = 5 ∨ N = 7 := by omega
    obtain ⟨q, hqN, hq⟩ := mod_of frm N hN357
    have hN7 : N ≤ 7 := by omega
    have hN0 : 0 < N := by omega
    have hwN : IntKind.u64.wrap (N : Int) = (N : Int) := by rw [IntKind.wrap_u64]; omega
    have hNz : ¬ (N : Int) = 0 := by omega
    have hq0 : (0 : Int) ≤ (q : Int) := by omega
    have hq1 : (q : Int) < (N : Int) := by omega
    obtain ⟨b, o, rfl, hbw, hcell⟩ := row_all hr (by omega)
    have HC := Lib.hid hcell
    have HN := Lib.hid hN
    have HPM := Lib.hid (trn_perm N q true L hN357 hqN hN)
    have HR0 := Lib.hid hr
    obtain ⟨i0, hi, hz0, hz1, hz2⟩ := info_parts info_rp
    rw [hb, hN] at HMY
    rw [hN] at hbd hr ⊢
    clear hcell hnL hn357 hN357 hb hN
    have HB_w := Lib.hid (Below.refl w.heap.size w)
    have R_L_w : Hid (Row w w.heap.size (.slice (some ⟨b, o, none⟩) N c) N (L.flatMap rpC)) := hr
    clear hr
    go_enter Try.func8, Try.ntmps8
    go_wp2_with fail
    refine (AW.out).mono ?_
    rintro e x1 ⟨rfl, hx⟩
    clear AW
    have HB_x1 := Lib.hid (HB_w.out.trans (Below.mono hx (HB_w.out.size)))
    have R_L_x1 : Hid (Row x1 x1.heap.size (.slice (some ⟨b, o, none⟩) N c) N (L.flatMap rpC)) := (R_L_w.out.below hx).more (Below.size hx)
    clear hx HB_w R_L_w
    go_wp2_with fail
    have MY := HMY.out _ R_L_x1.out
    refine MY.mono ?_
    rintro e u ⟨rfl, rfl⟩
    clear MY HMY
    clear R_L_x1
    go_wp2_with fail
    try rw [hq]
    clear hq
    go_loopw [9, 10] (fun tv iv wr => ∃ i : Nat, i ≤ N ∧ iv = .int .i64 i ∧ wr.ownsRow w.heap.size 33 11 tv i ((trn N q true L i).flatMap rpC) ∧ (∀ x ∈ L.take i, ∀ y ∈ L, Same2 x y) ∧ Below w.heap.size w wr) (fun _ iv _ => N - (intOf iv).toNat)
    case atStart => exact ⟨0, Nat.zero_le _, rfl, ⟨rfl, .inl ⟨rfl, rfl⟩⟩, by simp, HB_x1.out⟩
    case round =>
      obtain ⟨i, hile, rfl, hown, hall, hx⟩ := hrel
      have HXI := Lib.hid hx
      have zs := hx.size
      have HALL := Lib.hid hall
      obtain ⟨Ao, co, rfl, _, _⟩ := (Row.of_own hown).slice
      have HO := Lib.hid hown
      clear hx hall hown
      have hi0 : (0 : Int) ≤ (i : Int) := by omega
      by_cases hlt : i < N
      · have hl : i < L.length := by rw [HN.out]; exact hlt
        have hi1 : (i : Int) < (N : Int) := by omega
        have CI := Lib.hid (HC.out i hl)
        have HNX : Hid ((∀ y ∈ L, Same2 L[i] y) → ∀ x ∈ L.take (i + 1), ∀ y ∈ L, Same2 x y) := fun h x hx => by
          rw [List.take_succ_eq_append_getElem hl, List.mem_append, List.mem_singleton] at hx
          rcases hx with hx | rfl
          · exact HALL.out x hx
          · exact h
        generalize L[i] = x at CI HNX
        obtain ⟨xi, xs, ⟨xr, xp⟩, ⟨ek, ec, eq, ⟨ok, oa, ob, oc⟩⟩⟩ := x
        clear HALL
        go_wp2_with fail
        go_loopw [11] (fun kv wq => ∃ k : Nat, k ≤ N ∧ kv = .int .i64 k ∧ (∀ y ∈ L.take k, Same2 ⟨xi, xs, ⟨xr, xp⟩, ⟨ek, ec, eq, ⟨ok, oa, ob, oc⟩⟩⟩ y) ∧ Below wr.heap.size wr wq) (fun kv _ => N - (intOf kv).toNat)
        case atStart => exact ⟨0, Nat.zero_le _, rfl, by simp, Below.refl _ _⟩
        case round =>
          obtain ⟨k, hkle, rfl, hall, hx⟩ := hrel
          have HXQ := Lib.hid hx
          have HBQ := Lib.hid (HXI.out.trans (hx.mono zs))
          have HALL := Lib.hid hall
          have zq := HBQ.out.size
          clear hx hall
          have hk0 : (0 : Int) ≤ (k : Int) := by omega
          by_cases hkl : k < N
          · have hl2 : k < L.length := by rw [HN.out]; exact hkl
            have hk1 : (k : Int) < (N : Int) := by omega
            have CK := Lib.hid (HC.out k hl2)
            have HNK : Hid (Same2 ⟨xi, xs, ⟨xr, xp⟩, ⟨ek, ec, eq, ⟨ok, oa, ob, oc⟩⟩⟩ L[k] → ∀ y ∈ L.take (k + 1), Same2 ⟨xi, xs, ⟨xr, xp⟩, ⟨ek, ec, eq, ⟨ok, oa, ob, oc⟩⟩⟩ y) := fun h y hy => by
              rw [List.take_succ_eq_append_getElem hl2, List.mem_append, List.mem_singleton] at hy
              rcases hy with hy | rfl
              · exact HALL.out y hy
              · exact h
            generalize L[k] = y at CK HNK
            obtain ⟨yi, ys, ⟨yr, yp⟩, ⟨gk, gc, gq, ⟨qk, qa, qb, qc⟩⟩⟩ := y
            have hyx := CI.out _ HBQ.out
            have hyy := CK.out _ HBQ.out
            have y1 := hyx 1 _ rfl; have z1 := hyy 1 _ rfl; have y2 := hyx 2 _ rfl; have z2 := hyy 2 _ rfl; have y3 := hyx 3 _ rfl; have z3 := hyy 3 _ rfl; have y4 := hyx 4 _ rfl; have z4 := hyy 4 _ rfl; have y5 := hyx 5 _ rfl; have z5 := hyy 5 _ rfl; have y6 := hyx 6 _ rfl; have z6 := hyy 6 _ rfl; have y7 := hyx 7 _ rfl; have z7 := hyy 7 _ rfl; have y8 := hyx 8 _ rfl; have z8 := hyy 8 _ rfl; have y9 := hyx 9 _ rfl; have z9 := hyy 9 _ rfl; have y10 := hyx 10 _ rfl; have z10 := hyy 10 _ rfl
            dsimp only at y1 z1 y2 z2 y3 z3 y4 z4 y5 z5 y6 z6 y7 z7 y8 z8 y9 z9 y10 z10
            clear hyx hyy
            by_cases h1 : xs = 2
            · subst h1
              by_cases h2 : ys = 2
              · subst h2
                cases h3 : sameB ⟨xr, xp⟩ ⟨yr, yp⟩
                · have H3 := Lib.hid h3
                  go_wp2_with fail
                  go_quiet (fail)
                  go_wp2_with fail
                  go_roundw
                  case rel => exact ⟨k + 1, by omega, by go_num, HNK.out (fun _ _ h => absurd h (same_not.1 H3.out)), below_drewN HXQ.out _⟩
                  case measure => show N - ((k : Int) + 1).toNat < N - (k : Int).toNat; omega
                · cases h4 : eqE (ek : Nat) ec eq (ok : Nat) oa ob oc (gk : Nat) gc gq (qk : Nat) qa qb qc
                  · go_wp2_with fail
                    go_quiet (fail)
                    go_wp2_with fail
                    go_ret
                    exact ⟨rfl, below_drewN HBQ.out _⟩
                  · have H4 := Lib.hid h4
                    go_wp2_with fail
                    go_quiet (fail)
                    go_wp2_with fail
                    go_roundw
                    case rel => exact ⟨k + 1, by omega, by go_num, HNK.out (fun _ _ _ => sameE_iff.1 H4.out), below_drewN HXQ.out _⟩
                    case measure => show N - ((k : Int) + 1).toNat < N - (k : Int).toNat; omega
              · have hne : ((ys : Int) == 2) = false := by simp; omega
                have H2 := Lib.hid h2
                clear h2
                go_wp2_with fail
                go_quiet (fail)
                go_wp2_with fail
                go_roundw
                case rel => exact ⟨k + 1, by omega, by go_num, HNK.out (fun _ h _ => absurd h H2.out), below_drewN HXQ.out _⟩
                case measure => show N - ((k : Int) + 1).toNat < N - (k : Int).toNat; omega
            · have hne : ((xs : Int) == 2) = false := by simp; omega
              have H1 := Lib.hid h1
              clear h1
              go_wp2_with fail
              go_quiet (fail)
              go_wp2_with fail
              go_roundw
              case rel => exact ⟨k + 1, by omega, by go_num, HNK.out (fun h _ _ => absurd h H1.out), below_drewN HXQ.out _⟩
              case measure => show N - ((k : Int) + 1).toNat < N - (k : Int).toNat; omega
          · have e : k = N := by omega
            subst e
            have hE : L.take k = L := by rw [← HN.out, List.take_length]
            have hall := HALL.out
            rw [hE] at hall
            have HNX2 := Lib.hid (HNX.out hall)
            clear hE hall HNX HALL CI
            obtain ⟨r, hr⟩ : ∃ r, (q + i) % k = r := ⟨_, rfl⟩
            have hrk : r < k := by rw [← hr]; exact Nat.mod_lt _ (by omega)
            obtain ⟨hw1, hw2, ht⟩ := turn_nums q i k r hq0 hq1 hi0 hi1 hN7 hr
            have hr0 : (0 : Int) ≤ (r : Int) := by omega
            have hr1 : (r : Int) < (k : Int) := by omega
            obtain ⟨s, hs⟩ : ∃ s, k - 1 - r = s := ⟨_, rfl⟩
            have hs1 : (k : Int) - 1 - (r : Int) = (s : Int) := by omega
            have hs0 : (0 : Int) ≤ (s : Int) := by omega
            have hs2 : (s : Int) < (k : Int) := by omega
            have hat : atN k q true i = s := by unfold atN; rw [if_pos rfl, hr]; exact hs
            have hsL : s < L.length := by rw [HN.out]; omega
            have HTN : Hid (trn k q true L (i + 1) = trn k q true L i ++ [L[s]]) := by
              show trn k q true L (i + 1) = _
              rw [trn_next k q true L i (by rw [hat]; exact hsL)]
              simp only [hat]
            have hy := HC.out s hsL wr HBQ.out
            have y0 := hy 0 _ rfl
            have y1 := hy 1 _ rfl
            have y2 := hy 2 _ rfl
            have y3 := hy 3 _ rfl
            have y4 := hy 4 _ rfl
            have y5 := hy 5 _ rfl
            have y6 := hy 6 _ rfl
            have y7 := hy 7 _ rfl
            have y8 := hy 8 _ rfl
            have y9 := hy 9 _ rfl
            have y10 := hy 10 _ rfl
            simp only [Nat.add_zero] at y0
            clear hy hat hr hs
            generalize L[s] = x at HTN y0 y1 y2 y3 y4 y5 y6 y7 y8 y9 y10
            obtain ⟨xi, xs, ⟨xr, xp⟩, ⟨ek, ec, eq, ⟨ok, oa, ob, oc⟩⟩⟩ := x
            dsimp only at y0 y1 y2 y3 y4 y5 y6 y7 y8 y9 y10
            have HX6 := Lib.hid (rpC_one ⟨xi, xs, ⟨xr, xp⟩, ⟨ek, ec, eq, ⟨ok, oa, ob, oc⟩⟩⟩)
            have HO2 := Lib.hid (own_below HO.out HXQ.out)
            clear HO
            go_wp2_with (at_builtin
                         refine wpList_append_foot _ rfl (.tmp 91) (.tmp 96) _ rfl w.heap.size 33 i0 _ 11 112 Try.underlying22 hi hz0 hz1 hz2 rfl (by decide) _ i ((trn k q true L i).flatMap rpC) rfl (HO2.out.alloc _) (wr.heap.size + 1) _ 1 (rpC ⟨xi, xs, ⟨xr, xp⟩, ⟨ek, ec, eq, ⟨ok, oa, ob, oc⟩⟩⟩) rfl (Row.blk (wh0_1 wr 33 (rpC ⟨xi, xs, ⟨xr, xp⟩, ⟨ek, ec, eq, ⟨ok, oa, ob, oc⟩⟩⟩)) rfl (by omega) (by unfold maxLen; omega)) rfl HX6.out (by unfold maxLen; omega) (by omega) (by simp; omega) ?_
                         intro v7 w7 hown7 hg7 hv7
                         have HB7 := Lib.hid (below_grown _ (HO2.out.alloc _) (by simp; omega) hg7)
                         have HO7 := Lib.hid hown7
                         clear hown7 hg7 hv7)
            refine ⟨⟨i + 1, by omega, by go_num, ?_, HNX2.out, (HBQ.out.alloc zq _).trans HB7.out⟩, by simp [intOf]; omega⟩
            rw [HTN.out, List.flatMap_append]
            have h := HO7.out
            simpa using h
      · have e : i = N := by omega
        subst e
        have hE : L.take i = L := by rw [← HN.out, List.take_length]
        have hall := HALL.out
        rw [hE] at hall
        have hd := turned_plain (n := (i : Int)) HPM.out (fun x hx y hy => hall x hx y hy)
        have HRI : Row wr wr.heap.size (.slice (some ⟨b, o, none⟩) i c) i (L.flatMap rpC) := by
          have h := HR0.out
          rw [HN.out] at h
          exact (h.below HXI.out).more zs
        obtain ⟨⟨k1, ⟨sk, sc, sq, ⟨so, sx, sy, sz⟩⟩, f1⟩, hd1⟩ : ∃ d, decR (i : Int) L = d := ⟨_, rfl⟩
        rw [hd1] at hd
        have D1 := dec_any _ L hd1 (.slice (some ⟨b, o, none⟩) L.length c) wr (by rw [HN.out]; exact HRI)
        have D2 := dec_any _ (trn i q true L i) hd.symm (.slice Ao i co)
        rw [trn_len] at D2
        simp only [enC] at D1 D2
        rw [HN.out] at D1
        have D1 := Lib.hid D1
        have D2 := Lib.hid D2
        have HRT := Lib.hid (Row.of_own HO.out)
        have QE := eqE_self (sk : Nat) sc sq (so : Nat) sx sy sz
        clear hE hall hd hd1 HRI HALL HPM
        go_wp2_with fail
        refine D1.out.mono ?_
        rintro e u2 ⟨rfl, hx⟩
        have HX2 := Lib.hid (HXI.out.trans (hx.mono zs))
        have z2 := HX2.out.size
        have HRT2 := Lib.hid ((HRT.out.below hx).more hx.size)
        clear hx D1
        obtain ⟨x3, hx3⟩ : ∃ u : World, u = u2.alloc (.cells #[.int .u8 (sk : Nat), .int .i64 sc, .int .i64 sq, .int .u8 (so : Nat), .string sx, .string sy, .string sz] 31) := ⟨_, rfl⟩
        have EX : Hid (Whole x3 u2.heap.size 31 [.int .u8 (sk : Nat), .int .i64 sc, .int .i64 sq, .int .u8 (so : Nat), .string sx, .string sy, .string sz]) := by rw [hx3]; exact Whole.new u2 _ _
        have HX3 : Hid (Below w.heap.size w x3) := by rw [hx3]; exact HX2.out.alloc z2 _
        have HRT3 : Hid (Row x3 x3.heap.size (.slice Ao i co) i ((trn i q true L i).flatMap rpC)) := by
          have hx : Below u2.heap.size u2 x3 := by rw [hx3]; exact be1 u2 _
          exact (HRT2.out.below hx).more hx.size
        go_wp2_with fail
        rw [← hx3]
        clear hx3
        refine (D2.out _ HRT3.out).mono ?_
        rintro e u4 ⟨rfl, hx⟩
        have HX4 := Lib.hid (HX3.out.trans (hx.mono HX3.out.size))
        have hec := EX.out.below hx EX.out.lt
        have le := hec.lt
        have e0 := hec.cell 0; have e1 := hec.cell 1; have e2 := hec.cell 2; have e3 := hec.cell 3; have e4 := hec.cell 4; have e5 := hec.cell 5; have e6 := hec.cell 6
        simp only [List.getElem?_cons_zero, List.getElem?_cons_succ] at e0 e1 e2 e3 e4 e5 e6
        have HX5 : Hid (Below w.heap.size w (u4.alloc (.cells #[.int .u8 (sk : Nat), .int .i64 sc, .int .i64 sq, .int .u8 (so : Nat), .string sx, .string sy, .string sz] 31))) := Lib.hid (HX4.out.alloc HX4.out.size _)
        clear hx hec D2
        go_wp2_with fail
        go_ret
        exact ⟨by simp, HX5.out⟩
  · rw [hb] at HMY
    generalize hN : L.length = N at *
    clear hN hb
    have HB_w := Lib.hid (Below.refl w.heap.size w)
    have R_L_w : Hid (Row w w.heap.size (.slice A N c) N (L.flatMap rpC)) := hr
    clear hr
    go_enter Try.func8, Try.ntmps8
    go_wp2_with fail
    refine (AW.out).mono ?_
    rintro e x1 ⟨rfl, hx⟩
    clear AW
    have HB_x1 := Lib.hid (HB_w.out.trans (Below.mono hx (HB_w.out.size)))
    have R_L_x1 : Hid (Row x1 x1.heap.size (.slice A N c) N (L.flatMap rpC)) := (R_L_w.out.below hx).more (Below.size hx)
    clear hx HB_w R_L_w
    go_wp2_with fail
    have MY := HMY.out _ R_L_x1.out
    refine MY.mono ?_
    rintro e u ⟨rfl, rfl⟩
    clear MY HMY
    go_wp2_with fail
    go_ret
    exact ⟨rfl, HB_x1.out⟩
theorem chooseTurned_is (n : Int) (L : List Rp) (v : Value) (frm : Int) (back : Bool) (w : World) (hr : Row w w.heap.size v L.length (L.flatMap rpC)) :
    Calls Try.prog 8 #[.int .i64 n, v, .int .i64 frm, .bool back] w fun e w' => e = .returned (.bool true) ∧ Below w.heap.size w w' := by
  cases back
  · exact turned_false n L v frm w hr
  · exact turned_true n L v frm w hr
end Ch
end Go.Proofs.Ytpgejomhcojppaa
