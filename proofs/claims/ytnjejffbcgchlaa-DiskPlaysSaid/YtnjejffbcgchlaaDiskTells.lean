/- Both disks tell the same of a sector. -/
import Derived.Test.YtnjejffbcgchlaaDiskRef10
set_option linter.unusedSimpArgs false
set_option linter.unusedVariables false
namespace Go.Proofs.Ytnjejffbcgchlaa
open Go.RowKit
theorem Sep.midSwap {w0 u : World} {a b l : List It} (h : Sep w0 (a ++ (b ++ l)) u) : Sep w0 (b ++ (a ++ l)) u := by
  refine h.perm ?_
  rw [← List.append_assoc, ← List.append_assoc]
  exact List.Perm.append_right _ List.perm_append_comm
namespace Di
theorem there_val (d : Dk) (s : Int) : (thereE d [s] = 0 ∧ inn d s = true) ∨ (thereE d [s] = 2 ∧ inn d s = false ∧ meantV d s = []) := by
  rw [there_one]
  cases hin : inn d s
  · exact .inr ⟨rfl, rfl, by unfold meantV; rw [hin]; rfl⟩
  · exact .inl ⟨rfl, rfl⟩
set_option maxRecDepth 100000 in
set_option maxHeartbeats 8000000 in
theorem tells_is (d : Dk) (ho : Ok d) (hfew : d.waits.length ≤ 1000000000) (m : Md) (hr : Rel m d) (s : Int) (b : Nat) (pv wv : Value) (g : Nat) (sv mv lv zv : Value) {w0 : World} {l : List It} (w : World) (hS : Sep w0 (dI w0.heap.size b pv wv d ++ (mI w0.heap.size g sv mv lv zv m ++ l)) w) :
    Calls Try.prog 30 #[.pointer (some ⟨b, 0, none⟩), .pointer (some ⟨g, 0, none⟩), .int .i64 s] w fun e w' => e = .returned (.bool true) ∧ Sep w0 (dI w0.heap.size b pv wv d ++ (mI w0.heap.size g sv mv lv zv m ++ l)) w' := by
  obtain ⟨D, hD⟩ : ∃ D, D = dI w0.heap.size b pv wv d := ⟨_, rfl⟩
  obtain ⟨M, hM⟩ : ∃ M, M = mI w0.heap.size g sv mv lv zv m := ⟨_, rfl⟩
  have R1 : Hid (∀ (l : List It) (u : World), Sep w0 (D ++ (M ++ l)) u → Calls Try.prog 23 #[.pointer (some ⟨b, 0, none⟩), .int .i64 s] u fun e w' => ∃ v, e = .returned (.tuple #[v, .int .i64 (readE d s)]) ∧ Sep w0 (D ++ (M ++ (l ++ [rowB w0.heap.size v (readV d s)]))) w') := fun l u hs => by
    rw [hD] at hs ⊢
    refine (read_is d ho s b pv wv u hs).mono ?_
    rintro e w' ⟨v, rfl, h⟩
    exact ⟨v, rfl, by rw [List.append_assoc] at h; exact h⟩
  have R3 : Hid (∀ (l : List It) (u : World), Sep w0 (D ++ (M ++ l)) u → Calls Try.prog 26 #[.pointer (some ⟨b, 0, none⟩), .int .i64 s] u fun e w' => ∃ v, e = .returned (.tuple #[v, .bool (restL d s), .int .i64 (thereE d [s])]) ∧ Sep w0 (D ++ (M ++ (l ++ [rowB w0.heap.size v (restV d s)]))) w') := fun l u hs => by
    rw [hD] at hs ⊢
    refine (rest_is d ho s b pv wv u hs).mono ?_
    rintro e w' ⟨v, rfl, h⟩
    exact ⟨v, rfl, by rw [List.append_assoc] at h; exact h⟩
  have R5 : Hid (∀ (l : List It) (u : World), Sep w0 (D ++ (M ++ l)) u → Calls Try.prog 24 #[.pointer (some ⟨b, 0, none⟩), .int .i64 s] u fun e w' => ∃ v, e = .returned (.tuple #[v, .int .i64 (thereE d [s])]) ∧ Sep w0 (D ++ (M ++ (l ++ [rowB w0.heap.size v (meantV d s)]))) w') := fun l u hs => by
    rw [hD] at hs ⊢
    refine (meant_is d ho s b pv wv u hs).mono ?_
    rintro e w' ⟨v, rfl, h⟩
    exact ⟨v, rfl, by rw [List.append_assoc] at h; exact h⟩
  have R2 : Hid (∀ (l : List It) (u : World), Sep w0 (D ++ (M ++ l)) u → Calls Try.prog 50 #[.pointer (some ⟨g, 0, none⟩), .int .i64 s] u fun e w' => ∃ v, e = .returned (.tuple #[v, .int .i64 (readE d s)]) ∧ Sep w0 (D ++ (M ++ (l ++ [rowB w0.heap.size v (readV d s)]))) w') := fun l u hs => by
    rw [hM] at hs ⊢
    refine (rread_is m d hr hfew s g sv mv lv zv u hs.midSwap).mono ?_
    rintro e w' ⟨v, rfl, h⟩
    exact ⟨v, rfl, by rw [List.append_assoc] at h; exact h.midSwap⟩
  have R4 : Hid (∀ (l : List It) (u : World), Sep w0 (D ++ (M ++ l)) u → Calls Try.prog 51 #[.pointer (some ⟨g, 0, none⟩), .int .i64 s] u fun e w' => ∃ v, e = .returned (.tuple #[v, .bool (restL d s), .int .i64 (thereE d [s])]) ∧ Sep w0 (D ++ (M ++ (l ++ [rowB w0.heap.size v (restV d s)]))) w') := fun l u hs => by
    rw [hM] at hs ⊢
    refine (at_is m d hr s g sv mv lv zv u hs.midSwap).mono ?_
    rintro e w' ⟨v, rfl, h⟩
    exact ⟨v, rfl, by rw [List.append_assoc] at h; exact h.midSwap⟩
  have MC : Hid (inn d s = true → ∀ (l : List It) (u : World), Sep w0 (D ++ (M ++ l)) u → ∃ gm cm N A c, u.cell? ⟨g, 1, none⟩ = some (.slice (some ⟨gm, 0, none⟩) N cm) ∧ 0 ≤ s ∧ s < (N : Int) ∧ u.cell? ⟨gm, s.toNat, none⟩ = some (.slice A (meantV d s).length c) ∧ Row u u.heap.size (.slice A (meantV d s).length c) (meantV d s).length (u8s (meantV d s))) := fun hin l u hs => by
    rw [hM] at hs
    obtain ⟨hk, ha⟩ := at_get hin
    obtain ⟨h1, h2⟩ := inn_at hin
    have hs2 := hs.midSwap
    have hbm := mI_meants hs2
    have hkm : s.toNat < m.meants.length := by rw [hr.lm]; exact hk
    obtain ⟨gm, cm, hv, _⟩ := own_form hbm (by omega)
    rw [hv] at hbm
    have c1 := (mI_box hs2).cell 1
    simp only [mdC, List.getElem?_cons_zero, List.getElem?_cons_succ] at c1
    rw [hv] at c1
    have hrow := mI_meant hs2 hkm
    have hmv : m.meants[s.toNat].l = meantV d s := by unfold meantV; rw [hin, ha, hr.meant hkm hk]; rfl
    rw [hmv] at hrow
    obtain ⟨A, c, hvv, _, _⟩ := hrow.slice
    refine ⟨gm, cm, m.meants.length, A, c, c1, h1, by rw [hr.lm]; exact h2, ?_, by rw [← hvv]; exact hrow⟩
    rw [hbm.cellAt _ (by omega), slices_get _ hkm, hvv]
  have TV := Lib.hid (there_val d s)
  rw [← hD, ← hM] at hS ⊢
  have HS := Lib.hid hS
  clear hS hD hM ho hfew hr
  generalize readE d s = RE at *
  generalize restL d s = RL at *
  generalize thereE d [s] = TE at *
  generalize readV d s = RV at *
  generalize restV d s = XV at *
  generalize meantV d s = PV at *
  generalize inn d s = INN at *
  clear d m
  go_enter Try.func30, Try.ntmps30
  go_wp2_with fail
  refine (R1.out l w HS.out).mono ?_
  rintro e u1 ⟨v, rfl, hs⟩
  obtain ⟨Aa, ca, hv, hy1, hy2⟩ := (rowB_row (base := w0.heap.size) (v := v) (xs := RV) hs (by simp)).slice
  subst hv
  have H1 := Lib.hid hs
  clear hs hy1 hy2
  go_wp2_with fail
  refine (R2.out (l ++ [rowB w0.heap.size (.slice Aa RV.length ca) RV]) u1 H1.out).mono ?_
  rintro e u2 ⟨v, rfl, hs⟩
  obtain ⟨Ab, cb, hv, hy1, hy2⟩ := (rowB_row (base := w0.heap.size) (v := v) (xs := RV) hs (by simp)).slice
  subst hv
  have H2 := Lib.hid hs
  clear hs hy1 hy2
  go_wp2_with fail
  refine (R3.out ((l ++ [rowB w0.heap.size (.slice Aa RV.length ca) RV]) ++ [rowB w0.heap.size (.slice Ab RV.length cb) RV]) u2 H2.out).mono ?_
  rintro e u3 ⟨v, rfl, hs⟩
  obtain ⟨Ax, cx, hv, hy1, hy2⟩ := (rowB_row (base := w0.heap.size) (v := v) (xs := XV) hs (by simp)).slice
  subst hv
  have H3 := Lib.hid hs
  clear hs hy1 hy2
  go_wp2_with fail
  refine (R4.out (((l ++ [rowB w0.heap.size (.slice Aa RV.length ca) RV]) ++ [rowB w0.heap.size (.slice Ab RV.length cb) RV]) ++ [rowB w0.heap.size (.slice Ax XV.length cx) XV]) u3 H3.out).mono ?_
  rintro e u4 ⟨v, rfl, hs⟩
  obtain ⟨Ay, cy, hv, hy1, hy2⟩ := (rowB_row (base := w0.heap.size) (v := v) (xs := XV) hs (by simp)).slice
  subst hv
  have H4 := Lib.hid hs
  clear hs hy1 hy2
  go_wp2_with fail
  refine (R5.out ((((l ++ [rowB w0.heap.size (.slice Aa RV.length ca) RV]) ++ [rowB w0.heap.size (.slice Ab RV.length cb) RV]) ++ [rowB w0.heap.size (.slice Ax XV.length cx) XV]) ++ [rowB w0.heap.size (.slice Ay XV.length cy) XV]) u4 H4.out).mono ?_
  rintro e u5 ⟨v, rfl, hs⟩
  obtain ⟨Ap, cp, hv, hy1, hy2⟩ := (rowB_row (base := w0.heap.size) (v := v) (xs := PV) hs (by simp)).slice
  subst hv
  have H5 := Lib.hid hs
  clear hs hy1 hy2
  clear R1 R2 R3 R4 R5 H1 H2 H3 H4 HS
  have C1 := same_is RV RV _ _ _ _ u5 (rowB_row (base := w0.heap.size) (v := .slice Aa RV.length ca) H5.out (by simp)) (rowB_row (base := w0.heap.size) (v := .slice Ab RV.length cb) H5.out (by simp))
  rw [decide_eq_true rfl] at C1
  have C1 := Lib.hid C1
  go_wp2_with fail
  refine C1.out.mono ?_
  rintro e t1 ⟨rfl, hb⟩
  have T1 := Lib.hid (H5.out.call hb)
  clear hb C1
  have C2 := same_is XV XV _ _ _ _ t1 (rowB_row (base := w0.heap.size) (v := .slice Ax XV.length cx) T1.out (by simp)) (rowB_row (base := w0.heap.size) (v := .slice Ay XV.length cy) T1.out (by simp))
  rw [decide_eq_true rfl] at C2
  have C2 := Lib.hid C2
  go_wp2_with fail
  refine C2.out.mono ?_
  rintro e t2 ⟨rfl, hb⟩
  have T2 := Lib.hid (T1.out.call hb)
  clear hb C2
  have L1 : Hid (Sep w0 ((D ++ (M ++ (l ++ [rowB w0.heap.size (.slice Ax XV.length cx) XV, rowB w0.heap.size (.slice Ap PV.length cp) PV]))) ++ [rowB w0.heap.size (.slice Aa RV.length ca) RV]) t2) := by
    have h := T2.out.sub (l' := D ++ (M ++ (l ++ [rowB w0.heap.size (.slice Aa RV.length ca) RV, rowB w0.heap.size (.slice Ax XV.length cx) XV, rowB w0.heap.size (.slice Ap PV.length cp) PV]))) (by
      refine (List.Sublist.append_left ?_ _).append_left _
      simp only [List.append_assoc, List.cons_append, List.nil_append]
      exact ((((List.Sublist.refl [rowB w0.heap.size (.slice Ap PV.length cp) PV]).cons _).cons_cons _).cons _).cons_cons _ |>.append_left l)
    refine h.perm ?_
    simp only [List.append_assoc, List.cons_append, List.nil_append]
    refine List.Perm.append_left _ (List.Perm.append_left _ (List.Perm.append_left _ ?_))
    exact (List.Perm.swap _ _ _).trans (List.Perm.cons _ (List.Perm.swap _ _ _))
  clear H5 T1 T2
  have BR := Lib.hid (rowB_row (base := w0.heap.size) (v := .slice Aa RV.length ca) (xs := RV) L1.out (by simp)).bound
  have BX := Lib.hid (rowB_row (base := w0.heap.size) (v := .slice Ax XV.length cx) (xs := XV) L1.out (by simp)).bound
  have BP := Lib.hid (rowB_row (base := w0.heap.size) (v := .slice Ap PV.length cp) (xs := PV) L1.out (by simp)).bound
  go_wp2_with fail
  go_loopw [19] (fun i wr => ∃ (j : Nat) (ys : List Int), ys.length = RV.length ∧ j ≤ RV.length ∧ i = .int .i64 j ∧ Sep w0 ((D ++ (M ++ (l ++ [rowB w0.heap.size (.slice Ax XV.length cx) XV, rowB w0.heap.size (.slice Ap PV.length cp) PV]))) ++ [rowB w0.heap.size (.slice Aa RV.length ca) ys]) wr) (fun i _ => RV.length - (intOf i).toNat)
  case atStart => exact ⟨0, RV, rfl, Nat.zero_le _, rfl, L1.out⟩
  case round =>
    obtain ⟨j, ys, hy, hj, rfl, hs⟩ := hrel
    have HS3 := Lib.hid hs
    have HY := Lib.hid hy
    have hown := hs.holds (rowB w0.heap.size (.slice Aa RV.length ca) ys) (by simp)
    clear hs hy
    by_cases hlt : j < RV.length
    · have hly : j < ys.length := by rw [HY.out]; exact hlt
      have ho' : wr.ownsRow w0.heap.size 5 1 (.slice Aa RV.length ca) RV.length (u8s ys) := by have := hown; unfold rowB at this; rw [HY.out] at this; exact this
      obtain ⟨gq, cq, hvq, _⟩ := own_form ho' (by omega)
      injection hvq with e1 _ e2
      subst e1 e2
      have hc : wr.cell? ⟨gq, j, none⟩ = some (.int .u8 ys[j]) := by
        rw [ho'.cellAt j (by omega), u8s_get, List.getElem?_eq_getElem hly]
        rfl
      have hf : wr.frozen? ⟨gq, j, none⟩ = false := ho'.frozenAt j
      generalize ys[j] = y at *
      have hj0 : (0 : Int) ≤ (j : Int) := by omega
      have hj1 : (j : Int) < (RV.length : Int) := by omega
      have hb9 := BR.out
      clear hown ho'
      go_wp2_with fail
      go_roundw
      case rel => exact ⟨j + 1, ys.set j (IntKind.u8.wrap (y + 1)), by rw [List.length_set]; exact HY.out, by omega, by go_num, HS3.out.lastSet HY.out j (IntKind.u8.wrap (y + 1))⟩
      case measure => show RV.length - ((j : Int) + 1).toNat < RV.length - (j : Int).toNat; omega
    · have hjN : j = RV.length := by omega
      clear hown
      subst hjN
      have L2 : Hid (Sep w0 ((D ++ (M ++ (l ++ [rowB w0.heap.size (.slice Ap PV.length cp) PV]))) ++ [rowB w0.heap.size (.slice Ax XV.length cx) XV]) wr) := Lib.hid (by
        have h := (show Sep w0 ((D ++ (M ++ (l ++ [rowB w0.heap.size (.slice Ax XV.length cx) XV, rowB w0.heap.size (.slice Ap PV.length cp) PV]))) ++ [_]) _ from HS3.out).left
        refine h.perm ?_
        simp only [List.append_assoc, List.cons_append, List.nil_append]
        refine List.Perm.append_left _ (List.Perm.append_left _ (List.Perm.append_left _ ?_))
        exact List.Perm.swap _ _ _)
      clear HS3
      go_wp2_with fail
      go_loopw [20] (fun i wr => ∃ (j : Nat) (ys : List Int), ys.length = XV.length ∧ j ≤ XV.length ∧ i = .int .i64 j ∧ Sep w0 ((D ++ (M ++ (l ++ [rowB w0.heap.size (.slice Ap PV.length cp) PV]))) ++ [rowB w0.heap.size (.slice Ax XV.length cx) ys]) wr) (fun i _ => XV.length - (intOf i).toNat)
      case atStart => exact ⟨0, XV, rfl, Nat.zero_le _, rfl, L2.out⟩
      case round =>
        obtain ⟨j, ys, hy, hj, rfl, hs⟩ := hrel
        have HS3 := Lib.hid hs
        have HY := Lib.hid hy
        have hown := hs.holds (rowB w0.heap.size (.slice Ax XV.length cx) ys) (by simp)
        clear hs hy
        by_cases hlt : j < XV.length
        · have hly : j < ys.length := by rw [HY.out]; exact hlt
          have ho' : wr.ownsRow w0.heap.size 5 1 (.slice Ax XV.length cx) XV.length (u8s ys) := by have := hown; unfold rowB at this; rw [HY.out] at this; exact this
          obtain ⟨gq, cq, hvq, _⟩ := own_form ho' (by omega)
          injection hvq with e1 _ e2
          subst e1 e2
          have hc : wr.cell? ⟨gq, j, none⟩ = some (.int .u8 ys[j]) := by
            rw [ho'.cellAt j (by omega), u8s_get, List.getElem?_eq_getElem hly]
            rfl
          have hf : wr.frozen? ⟨gq, j, none⟩ = false := ho'.frozenAt j
          generalize ys[j] = y at *
          have hj0 : (0 : Int) ≤ (j : Int) := by omega
          have hj1 : (j : Int) < (XV.length : Int) := by omega
          have hb9 := BX.out
          clear hown ho'
          go_wp2_with fail
          go_roundw
          case rel => exact ⟨j + 1, ys.set j (IntKind.u8.wrap (y + 1)), by rw [List.length_set]; exact HY.out, by omega, by go_num, HS3.out.lastSet HY.out j (IntKind.u8.wrap (y + 1))⟩
          case measure => show XV.length - ((j : Int) + 1).toNat < XV.length - (j : Int).toNat; omega
        · have hjN : j = XV.length := by omega
          clear hown
          subst hjN
          rcases TV.out with ⟨ht, hin⟩ | ⟨ht, hin, hp⟩
          · have L3 : Hid (Sep w0 ((D ++ (M ++ l)) ++ [rowB w0.heap.size (.slice Ap PV.length cp) PV]) wr) := Lib.hid (by
              have h := (show Sep w0 ((D ++ (M ++ (l ++ [rowB w0.heap.size (.slice Ap PV.length cp) PV]))) ++ [_]) _ from HS3.out).left
              simp only [List.append_assoc] at h ⊢
              exact h)
            obtain ⟨gm, cm, NM, Am, cmm, q1, q2, q3, q4, q5⟩ := MC.out hin (l ++ [rowB w0.heap.size (.slice Ap PV.length cp) PV]) wr (by have := L3.out; simp only [List.append_assoc] at this ⊢; exact this)
            have C3 := same_is PV PV _ _ _ _ wr (rowB_row (base := w0.heap.size) (v := .slice Ap PV.length cp) L3.out (by simp)) q5
            rw [decide_eq_true rfl] at C3
            have C3 := Lib.hid C3
            clear q5 hin HS3
            subst ht
            have hs0 : (s.toNat : Int) = s := by omega
            go_wp2_with fail
            refine C3.out.mono ?_
            rintro e t3 ⟨rfl, hb⟩
            have L4 := Lib.hid (L3.out.call hb)
            clear hb C3 L3 q1 q4
            go_wp2_with fail
            go_loopw [22] (fun i wr => ∃ (j : Nat) (ys : List Int), ys.length = PV.length ∧ j ≤ PV.length ∧ i = .int .i64 j ∧ Sep w0 ((D ++ (M ++ l)) ++ [rowB w0.heap.size (.slice Ap PV.length cp) ys]) wr) (fun i _ => PV.length - (intOf i).toNat)
            case atStart => exact ⟨0, PV, rfl, Nat.zero_le _, rfl, L4.out⟩
            case round =>
              obtain ⟨j, ys, hy, hj, rfl, hs⟩ := hrel
              have HS3 := Lib.hid hs
              have HY := Lib.hid hy
              have hown := hs.holds (rowB w0.heap.size (.slice Ap PV.length cp) ys) (by simp)
              clear hs hy
              by_cases hlt : j < PV.length
              · have hly : j < ys.length := by rw [HY.out]; exact hlt
                have ho' : wr.ownsRow w0.heap.size 5 1 (.slice Ap PV.length cp) PV.length (u8s ys) := by have := hown; unfold rowB at this; rw [HY.out] at this; exact this
                obtain ⟨gq, cq, hvq, _⟩ := own_form ho' (by omega)
                injection hvq with e1 _ e2
                subst e1 e2
                have hc : wr.cell? ⟨gq, j, none⟩ = some (.int .u8 ys[j]) := by
                  rw [ho'.cellAt j (by omega), u8s_get, List.getElem?_eq_getElem hly]
                  rfl
                have hf : wr.frozen? ⟨gq, j, none⟩ = false := ho'.frozenAt j
                generalize ys[j] = y at *
                have hj0 : (0 : Int) ≤ (j : Int) := by omega
                have hj1 : (j : Int) < (PV.length : Int) := by omega
                have hb9 := BP.out
                clear hown ho'
                go_wp2_with fail
                go_roundw
                case rel => exact ⟨j + 1, ys.set j (IntKind.u8.wrap (y + 1)), by rw [List.length_set]; exact HY.out, by omega, by go_num, HS3.out.lastSet HY.out j (IntKind.u8.wrap (y + 1))⟩
                case measure => show PV.length - ((j : Int) + 1).toNat < PV.length - (j : Int).toNat; omega
              · have hjN : j = PV.length := by omega
                clear hown
                subst hjN
                go_wp2_with fail
                go_ret
                refine ⟨rfl, ?_⟩
                exact (show Sep w0 ((D ++ (M ++ l)) ++ [_]) _ from HS3.out).left
          · clear hin
            subst ht hp
            go_wp2_with fail
            go_ret
            refine ⟨rfl, ?_⟩
            have h := (show Sep w0 ((D ++ (M ++ (l ++ [_]))) ++ [_]) _ from HS3.out).left
            rw [← List.append_assoc, ← List.append_assoc] at h
            have h := h.left
            rw [List.append_assoc] at h
            exact h
end Di
end Go.Proofs.Ytnjejffbcgchlaa
