/- Many acts: Great, and what acts leave as it was. -/
import Derived.Test.YtnjejffbcgchlaaDiskOpen
import Derived.Test.YtnjejffbcgchlaaDiskAwake
set_option linter.unusedSimpArgs false
set_option linter.unusedVariables false
namespace Go.Proofs.Ytnjejffbcgchlaa
open Go.RowKit
namespace Di
theorem avC_len (x : Av) : (avC x).length = 5 := rfl
def big (x : Av) : Bool := decide (200 < x.a.bytes.length) || decide (100 < x.a.keep.length)
def greatB (L : List Av) : Bool := decide (120 < L.length) || L.any big
set_option maxHeartbeats 2000000 in
theorem great_is (L : List Av) (v : Value) (B : Nat) (w : World) (hr : Row w B v L.length (L.flatMap avC)) (hok : ∀ x ∈ L, avOk w x) :
    Calls Try.prog 21 #[v] w fun e w' => e = .returned (.bool (greatB L)) ∧ w = w' := by
  obtain ⟨A, c, rfl, _, _⟩ := hr.slice
  have hbd := hr.bound
  have HR := Lib.hid hr
  have HOK := Lib.hid hok
  clear hr hok
  by_cases h1 : 120 < L.length
  · have hE : Hid (greatB L = true) := by show greatB L = true; unfold greatB; rw [decide_eq_true h1]; rfl
    generalize L.length = M at *
    go_enter Try.func21, Try.ntmps21
    go_wp2_with fail
    go_ret
    exact ⟨by rw [hE.out]; rfl, rfl⟩
  · obtain ⟨M, hM⟩ : ∃ M, L.length = M := ⟨_, rfl⟩
    have HM := Lib.hid hM
    have h1' : ¬ 120 < M := by rw [← hM]; exact h1
    have h2 : decide (120 < (M : Int)) = false := by rw [decide_eq_false_iff_not]; omega
    have hE : Hid (greatB L = L.any big) := by show greatB L = _; unfold greatB; rw [decide_eq_false h1]; rfl
    rw [hM]
    clear hM h1
    go_enter Try.func21, Try.ntmps21
    go_wp2_with fail
    go_loopw [3] (fun i wr => ∃ k : Nat, k ≤ M ∧ i = .int .i64 k ∧ (L.take k).any big = false ∧ wr = w) (fun i _ => M - (intOf i).toNat)
    case atStart => exact ⟨0, Nat.zero_le _, rfl, by simp, rfl⟩
    case round =>
      obtain ⟨k, hk, rfl, hno, rfl⟩ := hrel
      have HNO := Lib.hid hno
      clear hno
      by_cases hlt : k < M
      · have hl : k < L.length := by rw [HM.out]; exact hlt
        obtain ⟨b2, o2, rfl, hb2, hx2⟩ := HR.out.elem avC_len (by omega) hl
        have y3 := hx2 3 _ rfl
        have y4 := hx2 4 _ rfl
        rw [← Nat.add_assoc] at y3 y4
        have hx := HOK.out _ (List.getElem_mem hl)
        have hnext : Hid ((L.take (k + 1)).any big = big L[k]) := by
          show (L.take (k + 1)).any big = _
          rw [List.take_succ_eq_append_getElem hl, List.any_append, HNO.out]; simp
        have hall : Hid (big L[k] = true → L.any big = true) := fun h => List.any_eq_true.2 ⟨L[k], List.getElem_mem hl, h⟩
        generalize L[k] = x at *
        obtain ⟨⟨kd, sc, nn, bs, ks⟩, bv, kv⟩ := x
        obtain ⟨_, _, hb, hkk⟩ := hx
        obtain ⟨Ab, cb, hbv, _, _⟩ := hb.slice
        obtain ⟨Ak, ck, hkv, _, _⟩ := hkk.slice
        dsimp only at hbv hkv
        clear hb hkk hx2
        subst hbv hkv
        dsimp only at *
        have hbg : big ⟨⟨kd, sc, nn, bs, ks⟩, .slice Ab bs.length cb, .slice Ak ks.length ck⟩ = (decide (200 < bs.length) || decide (100 < ks.length)) := rfl
        have HBG := Lib.hid hbg
        clear hbg
        generalize bs.length = nb at *
        generalize ks.length = nk at *
        have hk0 : (0 : Int) ≤ (k : Int) := by omega
        have hk1 : (k : Int) < (M : Int) := by omega
        by_cases g1 : 200 < nb
        · have HT : Hid (L.any big = true) := hall.out (by rw [HBG.out, decide_eq_true g1]; rfl)
          have g1' : decide (200 < (nb : Int)) = true := by rw [decide_eq_true_eq]; omega
          clear g1
          go_wp2_with fail
          go_ret
          exact ⟨by rw [hE.out, HT.out]; rfl, rfl⟩
        · have g1' : decide (200 < (nb : Int)) = false := by rw [decide_eq_false_iff_not]; omega
          by_cases g2 : 100 < nk
          · have HT : Hid (L.any big = true) := hall.out (by rw [HBG.out, decide_eq_true g2, Bool.or_true])
            have g2' : decide (100 < (nk : Int)) = true := by rw [decide_eq_true_eq]; omega
            clear g1 g2
            go_wp2_with fail
            go_ret
            exact ⟨by rw [hE.out, HT.out]; rfl, rfl⟩
          · have g2' : decide (100 < (nk : Int)) = false := by rw [decide_eq_false_iff_not]; omega
            have HT : Hid ((L.take (k + 1)).any big = false) := by show (L.take (k + 1)).any big = false; rw [hnext.out, HBG.out, decide_eq_false g1, decide_eq_false g2]; rfl
            clear g1 g2
            go_wp2_with fail
            go_round
            · exact ⟨k + 1, by omega, by go_num, HT.out, by trivial⟩
            · show M - ((k : Int) + 1).toNat < M - (k : Int).toNat; omega
      · have hkM : k = M := by omega
        subst hkM
        have HT : Hid (L.any big = false) := by
          have := HNO.out
          rw [← HM.out, List.take_length] at this
          exact this
        go_wp2_with fail
        go_ret
        exact ⟨by rw [hE.out, HT.out]; rfl, rfl⟩

/-- The acts, one by one. -/
def run (d : Dk) (L : List Av) : Dk := L.foldl (fun d x => doD d x.a) d
theorem run_snoc (d : Dk) (L : List Av) (k : Nat) (hk : k < L.length) : run d (L.take (k + 1)) = doD (run d (L.take k)) L[k].a := by
  unfold run
  rw [List.take_succ_eq_append_getElem hk, List.foldl_append]
  rfl
theorem do_waits (d : Dk) (a : Ac) : (doD d a).waits.length ≤ d.waits.length + 1 := by
  unfold doD
  split
  · unfold flushD
    split
    · split
      · rw [spend_waits]; omega
      · show ([] : List Wr).length ≤ _; simp
    · omega
  · unfold crashD
    split
    · omega
    · show ([] : List Wr).length ≤ _; simp
  · unfold startD; split <;> simp
  · unfold flipD; split
    · split <;> simp
    · simp
  · unfold loseD; split <;> simp
  · unfold strayD; split <;> simp
  · unfold powerD; split
    · split <;> simp
    · simp
  · unfold writeD
    split
    · split
      · split
        · split
          · rw [spend_waits]; omega
          · show (d.waits ++ _).length ≤ _; simp
        · omega
      · omega
    · omega
theorem do_len (d : Dk) (a : Ac) : (doD d a).places.length = d.places.length := by
  unfold doD
  split
  · unfold flushD
    split
    · split
      · rw [spend_places]
      · show (thr _ 0 _ _).length = _; rw [thr_len, spend_places]
    · rfl
  · unfold crashD
    split
    · rfl
    · exact thr_len _ _ _ _
  · unfold startD; split <;> rfl
  · unfold flipD; split
    · split
      · rfl
      · exact List.length_set
    · rfl
  · unfold loseD; split
    · exact List.length_set
    · rfl
  · unfold strayD; split
    · exact List.length_set
    · rfl
  · unfold powerD; split
    · split <;> rfl
    · rfl
  · unfold writeD
    split
    · split
      · split
        · split
          · rw [spend_places]
          · exact congrArg List.length (spend_places d)
        · rfl
      · rfl
    · rfl
/-- While a disk is down nothing waits. -/
def Dry (d : Dk) : Prop := d.down = true → d.waits = []
theorem spend_down (d : Dk) : (spendD d).down = d.down := by
  unfold spendD
  split
  · rfl
  · split <;> rfl
theorem do_dry {d : Dk} (h : Dry d) (a : Ac) : Dry (doD d a) := by
  have hup : d.up = true → d.down = false := fun h => by unfold Dk.up at h; cases hd : d.down <;> simp_all
  unfold doD
  split
  · unfold flushD
    split
    · rename_i hu
      split
      · intro h'; rw [spend_down, hup hu] at h'; cases h'
      · intro _; rfl
    · exact h
  · unfold crashD
    split
    · exact h
    · intro _; rfl
  · unfold startD; split
    · intro h'; cases h'
    · exact h
  · unfold flipD; split
    · split <;> exact h
    · exact h
  · unfold loseD; split <;> exact h
  · unfold strayD; split <;> exact h
  · unfold powerD; split
    · split <;> exact h
    · exact h
  · unfold writeD
    split
    · rename_i hu
      split
      · split
        · split
          · intro h'; rw [spend_down, hup hu] at h'; cases h'
          · intro h'; have h' : (spendD d).down = true := h'; rw [spend_down, hup hu] at h'; cases h'
        · exact h
      · exact h
    · exact h
/-- What a loop of acts keeps. -/
structure Run (d : Dk) (k : Nat) : Prop where
  ok : Ok d
  len : d.places.length = 4
  few : d.waits.length ≤ k + 1
  dry : Dry d
theorem Run.start : Run (new 4) 0 := ⟨new_ok (by decide) (by decide), rfl, by simp [new], fun h => by cases h⟩
theorem Run.next {d : Dk} {k : Nat} (h : Run d k) {x : Av} {w : World} (hx : avOk w x) : Run (doD d x.a) (k + 1) :=
  ⟨do_ok h.ok _ hx.2.1.2, (do_len _ _).trans h.len, by have := do_waits d x.a; have := h.few; omega, do_dry h.dry _⟩
theorem inn4 {d : Dk} (h : d.places.length = 4) {q : Int} (h0 : 0 ≤ q) (h1 : q < 4) : inn d q = true := by
  unfold inn
  rw [h, decide_eq_true h0, decide_eq_true (by show q < 4; omega)]; rfl
theorem mod4 (n : Int) : ∃ q : Int, wrap64 ((IntKind.u64.wrap n).tmod 4) = q ∧ 0 ≤ q ∧ q < 4 := by
  refine ⟨_, rfl, ?_⟩
  unfold wrap64
  rw [IntKind.wrap_u64, Int.tmod_eq_emod_of_nonneg (by omega)]
  omega
end Di
end Go.Proofs.Ytnjejffbcgchlaa
