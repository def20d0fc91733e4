/- Walks: pipe.tried, pipe.one. (printed by gen_runb.py) -/
import Derived.Test.YthfolopnjmkllaaDoorRunA
import Derived.Laws.EntriesVeiled
namespace Go.Proofs.YthfolopnjmkllaaDoor
open Go.RowKit
set_option linter.unusedVariables false
set_option linter.unusedSimpArgs false

theorem triedHex (s : ByteArray) (w : World) (hs : s.size ≤ 1048576) :
    Calls Tryd.prog 48 #[.string s, .func (.func 49) #[] #[]] w fun e w' => e = .returned (.string (if hexDE s.data.toList = 0 then str (hexDS s.data.toList) else s)) ∧ Below w.heap.size w w' := by
  have C := Lib.hid (hexDecode_any s w (by omega))
  obtain ⟨E, hE⟩ : ∃ E, E = hexDE s.data.toList := ⟨_, rfl⟩
  rw [← hE] at C ⊢
  obtain ⟨S, hS⟩ : ∃ S, S = str (hexDS s.data.toList) := ⟨_, rfl⟩
  rw [← hS] at C ⊢
  clear hE hS
  by_cases h : E = 0
  · subst h
    rw [if_pos rfl]
    go_enter Tryd.func48, Tryd.ntmps48
    go_wp2_with fail
    refine C.out.mono ?_
    rintro e w1 ⟨rfl, hb⟩
    have HB := Lib.hid hb
    clear hb
    go_wp2_with fail
    go_ret
    exact ⟨rfl, HB.out⟩
  · rw [if_neg h]
    have f0 : (E == 0) = false := by rw [beq_eq_false_iff_ne]; exact h
    clear h
    go_enter Tryd.func48, Tryd.ntmps48
    go_wp2_with fail
    refine C.out.mono ?_
    rintro e w1 ⟨rfl, hb⟩
    have HB := Lib.hid hb
    clear hb
    go_wp2_with fail
    go_ret
    exact ⟨rfl, HB.out⟩
theorem triedB64 (s : ByteArray) (w : World) (hs : s.size ≤ 1048576) :
    Calls Tryd.prog 48 #[.string s, .func (.func 50) #[] #[]] w fun e w' => e = .returned (.string (if (decB s.data.toList).2 = 0 then str (decB s.data.toList).1 else s)) ∧ Below w.heap.size w w' := by
  have C := Lib.hid (b64Decode_any s w (by omega))
  obtain ⟨E, hE⟩ : ∃ E, E = (decB s.data.toList).2 := ⟨_, rfl⟩
  rw [← hE] at C ⊢
  obtain ⟨S, hS⟩ : ∃ S, S = str (decB s.data.toList).1 := ⟨_, rfl⟩
  rw [← hS] at C ⊢
  clear hE hS
  by_cases h : E = 0
  · subst h
    rw [if_pos rfl]
    go_enter Tryd.func48, Tryd.ntmps48
    go_wp2_with fail
    refine C.out.mono ?_
    rintro e w1 ⟨rfl, hb⟩
    have HB := Lib.hid hb
    clear hb
    go_wp2_with fail
    go_ret
    exact ⟨rfl, HB.out⟩
  · rw [if_neg h]
    have f0 : (E == 0) = false := by rw [beq_eq_false_iff_ne]; exact h
    clear h
    go_enter Tryd.func48, Tryd.ntmps48
    go_wp2_with fail
    refine C.out.mono ?_
    rintro e w1 ⟨rfl, hb⟩
    have HB := Lib.hid hb
    clear hb
    go_wp2_with fail
    go_ret
    exact ⟨rfl, HB.out⟩
set_option maxRecDepth 100000 in
set_option maxHeartbeats 4000000 in
theorem pipeOne_any (k : Int) (s : ByteArray) (m : Int) (w : World) (h1 : 1 ≤ k) (h2 : k ≤ 11) (hs : s.size ≤ 1048576) (hm : w.cell? ⟨0, 0, none⟩ = some (.int .i64 m)) (hT : TabP w) :
    Calls Tryd.prog 28 #[.int .i64 k, .string s] w fun e w' => e = .returned (.string (oneF k s)) ∧ Below w.heap.size w w' := by
  have HM := Lib.hid fun w' (hb : Below w.heap.size w w') => (hb.cell (p := ⟨0, 0, none⟩) (World.block_lt_of_cell? _ _ hm)).trans hm
  have hb := Below.refl w.heap.size w
  by_cases k1 : k = 1
  · subst k1
    have C := Lib.hid ((lower_any s w (by omega)).mono fun e w' h => (show e = .returned (.string (oneF 1 s)) ∧ Below w.heap.size w w' from h))
    obtain ⟨S, hS⟩ : ∃ S, S = oneF 1 s := ⟨_, rfl⟩
    rw [← hS] at C ⊢
    clear hS hm hb HM
    go_enter Tryd.func28, Tryd.ntmps28
    go_wp2_with fail
    refine C.out.mono ?_
    rintro e w1 ⟨rfl, hb⟩
    have HB := Lib.hid hb
    clear hb
    go_wp2_with fail
    go_ret
    exact ⟨rfl, HB.out⟩
  · have f1 : (k == 1) = false := by rw [beq_eq_false_iff_ne]; exact k1
    by_cases k2 : k = 2
    · subst k2
      have C := Lib.hid ((urlDecode_any s w (by omega)).mono fun e w' h => (show e = .returned (.string (oneF 2 s)) ∧ Below w.heap.size w w' from h))
      obtain ⟨S, hS⟩ : ∃ S, S = oneF 2 s := ⟨_, rfl⟩
      rw [← hS] at C ⊢
      clear hS hm hb HM
      go_enter Tryd.func28, Tryd.ntmps28
      go_wp2_with fail
      refine C.out.mono ?_
      rintro e w1 ⟨rfl, hb⟩
      have HB := Lib.hid hb
      clear hb
      go_wp2_with fail
      go_ret
      exact ⟨rfl, HB.out⟩
    · have f2 : (k == 2) = false := by rw [beq_eq_false_iff_ne]; exact k2
      by_cases k3 : k = 3
      · subst k3
        have C := Lib.hid ((triedHex s w hs).mono fun e w' h => (show e = .returned (.string (oneF 3 s)) ∧ Below w.heap.size w w' from h))
        obtain ⟨S, hS⟩ : ∃ S, S = oneF 3 s := ⟨_, rfl⟩
        rw [← hS] at C ⊢
        clear hS hm hb HM
        go_enter Tryd.func28, Tryd.ntmps28
        go_wp2_with fail
        refine C.out.mono ?_
        rintro e w1 ⟨rfl, hb⟩
        have HB := Lib.hid hb
        clear hb
        go_wp2_with fail
        go_ret
        exact ⟨rfl, HB.out⟩
      · have f3 : (k == 3) = false := by rw [beq_eq_false_iff_ne]; exact k3
        by_cases k4 : k = 4
        · subst k4
          have C := Lib.hid ((triedB64 s w hs).mono fun e w' h => (show e = .returned (.string (oneF 4 s)) ∧ Below w.heap.size w w' from h))
          obtain ⟨S, hS⟩ : ∃ S, S = oneF 4 s := ⟨_, rfl⟩
          rw [← hS] at C ⊢
          clear hS hm hb HM
          go_enter Tryd.func28, Tryd.ntmps28
          go_wp2_with fail
          refine C.out.mono ?_
          rintro e w1 ⟨rfl, hb⟩
          have HB := Lib.hid hb
          clear hb
          go_wp2_with fail
          go_ret
          exact ⟨rfl, HB.out⟩
        · have f4 : (k == 4) = false := by rw [beq_eq_false_iff_ne]; exact k4
          by_cases k5 : k = 5
          · subst k5
            have C := Lib.hid ((htmlDecode_any s w (by omega)).mono fun e w' h => (show e = .returned (.string (oneF 5 s)) ∧ Below w.heap.size w w' from h))
            obtain ⟨S, hS⟩ : ∃ S, S = oneF 5 s := ⟨_, rfl⟩
            rw [← hS] at C ⊢
            clear hS hm hb HM
            go_enter Tryd.func28, Tryd.ntmps28
            go_wp2_with fail
            refine C.out.mono ?_
            rintro e w1 ⟨rfl, hb⟩
            have HB := Lib.hid hb
            clear hb
            go_wp2_with fail
            go_ret
            exact ⟨rfl, HB.out⟩
          · have f5 : (k == 5) = false := by rw [beq_eq_false_iff_ne]; exact k5
            by_cases k6 : k = 6
            · subst k6
              have C := Lib.hid ((path_any s w m hs (HM.out w hb)).mono fun e w' h => (show e = .returned (.string (oneF 6 s)) ∧ Below w.heap.size w w' from h))
              obtain ⟨S, hS⟩ : ∃ S, S = oneF 6 s := ⟨_, rfl⟩
              rw [← hS] at C ⊢
              clear hS hm hb HM
              go_enter Tryd.func28, Tryd.ntmps28
              go_wp2_with fail
              refine C.out.mono ?_
              rintro e w1 ⟨rfl, hb⟩
              have HB := Lib.hid hb
              clear hb
              go_wp2_with fail
              go_ret
              exact ⟨rfl, HB.out⟩
            · have f6 : (k == 6) = false := by rw [beq_eq_false_iff_ne]; exact k6
              by_cases k7 : k = 7
              · subst k7
                have C := Lib.hid ((squeeze_any s w (by omega)).mono fun e w' h => (show e = .returned (.string (oneF 7 s)) ∧ Below w.heap.size w w' from h))
                obtain ⟨S, hS⟩ : ∃ S, S = oneF 7 s := ⟨_, rfl⟩
                rw [← hS] at C ⊢
                clear hS hm hb HM
                go_enter Tryd.func28, Tryd.ntmps28
                go_wp2_with fail
                refine C.out.mono ?_
                rintro e w1 ⟨rfl, hb⟩
                have HB := Lib.hid hb
                clear hb
                go_wp2_with fail
                go_ret
                exact ⟨rfl, HB.out⟩
              · have f7 : (k == 7) = false := by rw [beq_eq_false_iff_ne]; exact k7
                by_cases k8 : k = 8
                · subst k8
                  have C := Lib.hid ((noNull_any s w (by omega)).mono fun e w' h => (show e = .returned (.string (oneF 8 s)) ∧ Below w.heap.size w w' from h))
                  obtain ⟨S, hS⟩ : ∃ S, S = oneF 8 s := ⟨_, rfl⟩
                  rw [← hS] at C ⊢
                  clear hS hm hb HM
                  go_enter Tryd.func28, Tryd.ntmps28
                  go_wp2_with fail
                  refine C.out.mono ?_
                  rintro e w1 ⟨rfl, hb⟩
                  have HB := Lib.hid hb
                  clear hb
                  go_wp2_with fail
                  go_ret
                  exact ⟨rfl, HB.out⟩
                · have f8 : (k == 8) = false := by rw [beq_eq_false_iff_ne]; exact k8
                  by_cases k9 : k = 9
                  · subst k9
                    have C := Lib.hid ((trim_any s w (by omega)).mono fun e w' h => (show e = .returned (.string (oneF 9 s)) ∧ Below w.heap.size w w' from ⟨h.1, by rw [← h.2]; exact Below.refl _ _⟩))
                    obtain ⟨S, hS⟩ : ∃ S, S = oneF 9 s := ⟨_, rfl⟩
                    rw [← hS] at C ⊢
                    clear hS hm hb HM
                    go_enter Tryd.func28, Tryd.ntmps28
                    go_wp2_with fail
                    refine C.out.mono ?_
                    rintro e w1 ⟨rfl, hb⟩
                    have HB := Lib.hid hb
                    clear hb
                    go_wp2_with fail
                    go_ret
                    exact ⟨rfl, HB.out⟩
                  · have f9 : (k == 9) = false := by rw [beq_eq_false_iff_ne]; exact k9
                    by_cases k10 : k = 10
                    · subst k10
                      have C := Lib.hid ((itoaS_any s.size w (by omega) (hT.below hb)).mono fun e w' h => (show e = .returned (.string (oneF 10 s)) ∧ Below w.heap.size w w' from h))
                      obtain ⟨S, hS⟩ : ∃ S, S = oneF 10 s := ⟨_, rfl⟩
                      rw [← hS] at C ⊢
                      clear hS hm hb HM
                      go_enter Tryd.func28, Tryd.ntmps28
                      go_wp2_with fail
                      refine C.out.mono ?_
                      rintro e w1 ⟨rfl, hb⟩
                      have HB := Lib.hid hb
                      clear hb
                      go_wp2_with fail
                      go_ret
                      exact ⟨rfl, HB.out⟩
                    · have f10 : (k == 10) = false := by rw [beq_eq_false_iff_ne]; exact k10
                      obtain rfl : k = 11 := by omega
                      have C := Lib.hid ((cmd_any s w (by omega)).mono fun e w' h => (show e = .returned (.string (oneF 11 s)) ∧ Below w.heap.size w w' from h))
                      obtain ⟨S, hS⟩ : ∃ S, S = oneF 11 s := ⟨_, rfl⟩
                      rw [← hS] at C ⊢
                      clear hS hm hb HM
                      go_enter Tryd.func28, Tryd.ntmps28
                      go_wp2_with fail
                      refine C.out.mono ?_
                      rintro e w1 ⟨rfl, hb⟩
                      have HB := Lib.hid hb
                      clear hb
                      go_wp2_with fail
                      go_ret
                      exact ⟨rfl, HB.out⟩
end Go.Proofs.YthfolopnjmkllaaDoor
