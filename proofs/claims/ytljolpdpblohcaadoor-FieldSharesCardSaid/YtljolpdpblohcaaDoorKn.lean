/-
  Walks: what must come of fixed calls.
-/
import Derived.Test.YtljolpdpblohcaaDoorFi
import Derived.Test.YtljolpdpblohcaaDoorRt
import Derived.Test.YtljolpdpblohcaaDoorSb
import Derived.ArgAppend
import Derived.Laws.OwnMore
import Derived.OwnWalk
namespace Go.Proofs.YtljolpdpblohcaaDoor
open Go.RowKit Go.Proofs.YtljolpdpblohcaaDoorW.PrintLast
set_option linter.unusedSimpArgs false

theorem rd_owned {w : World} {base n : Nat} {e : TypeId} {v : Value} {k : IntKind} (xs : List Nat) (h : w.ownsRow base e 1 v n (xs.map fun (b : Nat) => Value.int k (b : Int))) (h0 : 0 < xs.length) :
    ∃ g cap, v = .slice (some ⟨g, 0, none⟩) xs.length cap ∧ xs.length ≤ cap ∧ base ≤ g ∧ Rd w k (some ⟨g, 0, none⟩) xs := by
  have hn : n = xs.length := by have := h.1; simp at this; omega
  subst hn
  rcases h.2 with ⟨_, hz⟩ | ⟨g, cap, cur, rfl, hb, hg, hnc, _, _, _⟩
  · omega
  · refine ⟨g, cap, rfl, hnc, hb, fun i hi => ⟨g, 0, rfl, ?_⟩⟩
    rw [Nat.zero_add, h.cellAt i (by omega)]
    simp [hi]
theorem below_grown {w w' : World} (h : w.grownBy w' none) : Below w.heap.size w w' := ⟨h.os, h.tape, h.output, h.size, fun k hk => h.block k hk (by simp)⟩

theorem rd_news {w : World} {b x : Nat} {xs : List Nat} (h : Rd w .u8 (some ⟨b, 0, none⟩) (x :: xs)) (o : Obj) : ∀ (j : Nat) (u : Value), (xs.map fun (n : Nat) => Value.int .u8 (n : Int))[j]? = some u → (w.alloc o).cell? ((⟨b, 1, none⟩ : Addr).add j) = some u := by
  intro j u hu
  rw [List.getElem?_map] at hu
  cases hx : xs[j]? with
  | none => rw [hx] at hu; simp at hu
  | some n =>
    rw [hx] at hu
    simp only [Option.map_some, Option.some.injEq] at hu
    subst hu
    obtain ⟨hj, hn⟩ := List.getElem?_eq_some_iff.mp hx
    obtain ⟨b', off, he, hc⟩ := h (j + 1) (by simp; omega)
    simp only [Option.some.injEq, Addr.mk.injEq] at he
    obtain ⟨rfl, rfl, _⟩ := he
    rw [Addr.add_lit]
    have hl := World.block_lt_of_cell? w _ hc
    have h2 := (World.cell?_of_block (w := w) (w' := w.alloc o) (a := ⟨b, 0 + (j + 1), none⟩) (alloc_past hl)).trans hc
    rw [show 1 + j = 0 + (j + 1) by omega, h2]
    simp [hn]
theorem lit_cell {w : World} {v : Value} {e : TypeId} : ∀ c, some (⟨w.heap.size, 0, none⟩ : Addr) = some c → ∀ (j : Nat) (u : Value), [v][j]? = some u → (w.alloc (.cells #[v] e)).cell? (c.add j) = some u := by
  intro c hc j u hu
  cases hc
  match j, hu with
  | 0, hu =>
    simp at hu
    subst hu
    simp [Addr.add]

theorem Root41 (w : World) : Calls Tryd.prog 18 #[(small 4).v, (small 1).v] w fun e w' => e = .returned (.tuple #[(small 2).v, .bool true]) ∧ Below w.heap.size w w' := by
  have h := Root_any (small 4) (small 1) (small_u 4) (small_u 1) w
  have hA : (small 4).val % Num.p = 4 % Num.p := by rw [small_val, Nat.mod_mod]
  have hV : (small 1).val % Num.p = 1 % Num.p := by rw [small_val, Nat.mod_mod]
  have hk := root_known (leN (nearL 253 15)) (leN (nearL 251 31)) rootE1_eq rootE2_eq
  have h1 := (root_congr (n := leN (nearL 253 15)) (m := leN (nearL 251 31)) hA hV).1.mpr hk.1
  rw [rootV_congr hA hV, hk.2, decide_eq_true h1] at h
  exact h
theorem Enc236 (w : World) : Calls Tryd.prog 14 #[(small (subM 0 (small 1).val)).v] w fun e w' => (∃ b, e = .returned (.slice (some ⟨b, 0, none⟩) 32 32) ∧ Rd w' .u8 (some ⟨b, 0, none⟩) (nearL 236 127)) ∧ Below w.heap.size w w' := by
  have h := Encode_any (small (subM 0 (small 1).val)) (small_u _) w
  have e : ((List.range 32).map fun j => byteAt ((small (subM 0 (small 1).val)).val % Num.p) 255 j) = nearL 236 127 := by decide
  rw [e] at h
  exact h
theorem dec237 (b c : Nat) (w : World) (h : Rd w .u8 (some ⟨b, 0, none⟩) (nearL 237 127)) : Calls Tryd.prog 17 #[.slice (some ⟨b, 0, none⟩) 32 c] w fun e w' => e = .returned (.tuple #[(⟨0, 0, 0, 0, 0⟩ : Fn).v, .int .i64 30]) ∧ Below w.heap.size w w' :=
  Decode_mid (some ⟨b, 0, none⟩) c (nearL 237 127) rfl (by decide) (by decide) w h
theorem small2_v : (small 2).v = .agg #[.int .u64 2, .int .u64 0, .int .u64 0, .int .u64 0, .int .u64 0] := by
  have : small 2 = ⟨2, 0, 0, 0, 0⟩ := by unfold small cut51 Num.p; rfl
  rw [this]; rfl
theorem rd_near {w : World} {b : Nat} {lo hi : Nat} (h : Rd w .u8 (some ⟨b, 0, none⟩) (nearL lo hi)) : w.cell? ⟨b, 0, none⟩ = some (.int .u8 (lo : Int)) ∧ w.cell? ⟨b, 1, none⟩ = some (.int .u8 255) ∧ w.cell? ⟨b, 31, none⟩ = some (.int .u8 (hi : Int)) := by
  obtain ⟨b', off, he, _, hc⟩ := h.place (by simp [nearL])
  simp only [Option.some.injEq, Addr.mk.injEq] at he
  obtain ⟨rfl, rfl, _⟩ := he
  exact ⟨hc 0 (by simp [nearL]), hc 1 (by simp [nearL]), hc 31 (by simp [nearL])⟩

set_option maxRecDepth 100000 in
set_option maxHeartbeats 4000000 in
theorem known_any (w : World) :
    Calls Tryd.prog 6 #[] w fun e w' => e = .returned (.bool true) ∧ Below w.heap.size w w' := by
  obtain ⟨i0, hi0⟩ : ∃ i, Tryd.prog.info? 5 = some i := Option.isSome_iff_exists.mp (by kernel_rfl)
  have hi3 : (Tryd.prog.info? 5).map (fun i => (i.zero, i.size, i.bytes)) = some (some (.int .u8 0), 1, 1) := by kernel_rfl
  rw [hi0] at hi3
  simp only [Option.map_some, Option.some.injEq, Prod.mk.injEq] at hi3
  have HI := Lib.hid (And.intro hi0 hi3)
  clear hi0 hi3
  go_enter Tryd.func6, Tryd.ntmps6
  go_wp2_with fail
  refine (Small_any 1 (by decide) _).mono ?_
  rintro e x1 ⟨rfl, hb1⟩
  have HB1 : Hid (Below w.heap.size w x1) := Below.trans (by (repeat (first | with_reducible exact (Below.refl _ _) | with_reducible refine below_pin ?_ ?_ | with_reducible refine Below.alloc ?_ ?_ _ | with_reducible refine Below.setCell ?_ ?_ _ | with_reducible refine Below.drew ?_)); all_goals (first | omega | (simp only [World.size_alloc, pin_size, World.size_drew, World.size_setCell] <;> omega))) (hb1.mono (by (first | omega | (simp only [World.size_alloc, pin_size, World.size_drew, World.size_setCell] <;> omega))))
  have hz1 := HB1.out.size
  clear hb1
  go_wp2_with fail
  refine (Neg_any (small 1) (small_u 1) _).mono ?_
  rintro e x2 ⟨rfl, hb2⟩
  have HB2 : Hid (Below w.heap.size w x2) := Below.trans (by (repeat (first | with_reducible exact HB1.out | with_reducible refine below_pin ?_ ?_ | with_reducible refine Below.alloc ?_ ?_ _ | with_reducible refine Below.setCell ?_ ?_ _ | with_reducible refine Below.drew ?_)); all_goals (first | omega | (simp only [World.size_alloc, pin_size, World.size_drew, World.size_setCell] <;> omega))) (hb2.mono (by (first | omega | (simp only [World.size_alloc, pin_size, World.size_drew, World.size_setCell] <;> omega))))
  have hz2 := HB2.out.size
  clear hb2
  go_wp2_with fail
  refine (Encode_any (small (subM 0 (small 1).val)) (small_u _) _).mono ?_
  rintro e x3 ⟨⟨b, rfl, hrd⟩, hb3⟩
  have HB3 : Hid (Below w.heap.size w x3) := Below.trans (by (repeat (first | with_reducible exact HB2.out | with_reducible refine below_pin ?_ ?_ | with_reducible refine Below.alloc ?_ ?_ _ | with_reducible refine Below.setCell ?_ ?_ _ | with_reducible refine Below.drew ?_)); all_goals (first | omega | (simp only [World.size_alloc, pin_size, World.size_drew, World.size_setCell] <;> omega))) (hb3.mono (by (first | omega | (simp only [World.size_alloc, pin_size, World.size_drew, World.size_setCell] <;> omega))))
  have hz3 := HB3.out.size
  clear hb3
  have HRD : Hid (Rd x3 .u8 (some ⟨b, 0, none⟩) (nearL 236 127)) := by
    have e : ((List.range 32).map fun j => byteAt ((small (subM 0 (small 1).val)).val % Num.p) 255 j) = nearL 236 127 := by decide
    rw [e] at hrd
    exact hrd
  clear hrd
  go_wp2_with (at_builtin; refine wpList_append_grows _ rfl (.tmp 10) (.tmp 15) 22 rfl 5 i0 (.int .u8 0) 1 1 Tryd.underlying22 HI.out.1 HI.out.2.1 HI.out.2.2.1 HI.out.2.2.2 rfl (by decide) (some ⟨x3.heap.size, 0, none⟩) 1 1 [.int .u8 237] rfl (fun h => nomatch h) rfl lit_cell ⟨b, 1, none⟩ 31 31 (((nearL 236 127).drop 1).map fun (n : Nat) => Value.int .u8 (n : Int)) rfl rfl (rd_news HRD.out _) ?c2 (by omega) (by unfold maxLen; omega) (by omega) ?_)
  case c2 => (intro u hu; obtain ⟨n, _, rfl⟩ := List.mem_map.mp hu; rfl)
  intro v' x4 hown hgrow
  obtain ⟨g, cap, rfl, hcap, hbg, hrd4⟩ := rd_owned (nearL 237 127) hown (by decide)
  rw [show (nearL 237 127).length = 32 from rfl]
  have HBW := HB3
  clear HB3
  have HB4 : Hid (Below x3.heap.size x3 x4) := Below.trans (Below.alloc (Below.refl x3.heap.size x3) (Nat.le_refl _) _) ((below_grown hgrow).mono (by simp only [World.size_alloc]; omega))
  have hz4 := HB4.out.size
  have HR4 := Lib.hid hrd4
  clear hown hgrow hcap hbg hrd4
  go_wp2_with fail
  refine (dec237 g cap _ HR4.out).mono ?_
  rintro e x5 ⟨rfl, hb5⟩
  have HB5 : Hid (Below x3.heap.size x3 x5) := Below.trans (by (repeat (first | with_reducible exact HB4.out | with_reducible refine below_pin ?_ ?_ | with_reducible refine Below.alloc ?_ ?_ _ | with_reducible refine Below.setCell ?_ ?_ _ | with_reducible refine Below.drew ?_)); all_goals (first | omega | (simp only [World.size_alloc, pin_size, World.size_drew, World.size_setCell] <;> omega))) (hb5.mono (by (first | omega | (simp only [World.size_alloc, pin_size, World.size_drew, World.size_setCell] <;> omega))))
  have hz5 := HB5.out.size
  clear hb5
  go_wp2_with fail
  refine (Small_any 4 (by decide) _).mono ?_
  rintro e x6 ⟨rfl, hb6⟩
  have HB6 : Hid (Below x3.heap.size x3 x6) := Below.trans (by (repeat (first | with_reducible exact HB5.out | with_reducible refine below_pin ?_ ?_ | with_reducible refine Below.alloc ?_ ?_ _ | with_reducible refine Below.setCell ?_ ?_ _ | with_reducible refine Below.drew ?_)); all_goals (first | omega | (simp only [World.size_alloc, pin_size, World.size_drew, World.size_setCell] <;> omega))) (hb6.mono (by (first | omega | (simp only [World.size_alloc, pin_size, World.size_drew, World.size_setCell] <;> omega))))
  have hz6 := HB6.out.size
  clear hb6
  go_wp2_with fail
  refine (Small_any 1 (by decide) _).mono ?_
  rintro e x7 ⟨rfl, hb7⟩
  have HB7 : Hid (Below x3.heap.size x3 x7) := Below.trans (by (repeat (first | with_reducible exact HB6.out | with_reducible refine below_pin ?_ ?_ | with_reducible refine Below.alloc ?_ ?_ _ | with_reducible refine Below.setCell ?_ ?_ _ | with_reducible refine Below.drew ?_)); all_goals (first | omega | (simp only [World.size_alloc, pin_size, World.size_drew, World.size_setCell] <;> omega))) (hb7.mono (by (first | omega | (simp only [World.size_alloc, pin_size, World.size_drew, World.size_setCell] <;> omega))))
  have hz7 := HB7.out.size
  clear hb7
  go_wp2_with fail
  have HF := Lib.hid (rd_near (HRD.out.mono HB7.out (Nat.le_refl _)))
  refine (Root41 _).mono ?_
  rintro e x8 ⟨rfl, hb8⟩
  have HB8 : Hid (Below x3.heap.size x3 x8) := Below.trans (by (repeat (first | with_reducible exact HB7.out | with_reducible refine below_pin ?_ ?_ | with_reducible refine Below.alloc ?_ ?_ _ | with_reducible refine Below.setCell ?_ ?_ _ | with_reducible refine Below.drew ?_)); all_goals (first | omega | (simp only [World.size_alloc, pin_size, World.size_drew, World.size_setCell] <;> omega))) (hb8.mono (by (first | omega | (simp only [World.size_alloc, pin_size, World.size_drew, World.size_setCell] <;> omega))))
  have hz8 := HB8.out.size
  clear hb8
  have HG := Lib.hid (fun o => rd_near ((HRD.out.mono HB8.out (Nat.le_refl _)).mono (Below.alloc (Below.refl x8.heap.size x8) (Nat.le_refl _) o) (Nat.le_refl _)))
  have hb0 := fun o => (HG.out o).1
  have hb1 := fun o => (HG.out o).2.1
  have hb31 := fun o => (HG.out o).2.2
  have hs2 := small2_v
  go_wp2_with fail
  go_ret
  exact ⟨rfl, Below.trans HBW.out (((by (repeat (first | with_reducible exact HB8.out | with_reducible refine below_pin ?_ ?_ | with_reducible refine Below.alloc ?_ ?_ _ | with_reducible refine Below.setCell ?_ ?_ _ | with_reducible refine Below.drew ?_)); all_goals (first | omega | (simp only [World.size_alloc, pin_size, World.size_drew, World.size_setCell] <;> omega))) : Below x3.heap.size x3 _).mono HBW.out.size)⟩

end Go.Proofs.YtljolpdpblohcaaDoor
