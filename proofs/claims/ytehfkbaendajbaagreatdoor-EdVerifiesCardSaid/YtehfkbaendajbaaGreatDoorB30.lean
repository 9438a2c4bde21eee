/-
  Shared, part 30: walks and plain laws; each theorem states its own conditions.
-/
import Derived.Test.YtehfkbaendajbaaGreatDoorB15
import Derived.Test.YtehfkbaendajbaaGreatDoorB16
import Derived.Laws.CopyRow
namespace Go.Proofs.YtehfkbaendajbaaGreatDoor
set_option linter.unusedSimpArgs false
set_option linter.unusedVariables false
set_option maxRecDepth 100000
set_option maxHeartbeats 8000000
section
open Go.RowKit Go.Proofs.YtehfkbaendajbaaGreatDoorW.PrintLast
theorem acj (q a : Nat) (h : q + a * 256 < 131072) : eX ((q : Int) + eX (eX (a : Int) * 256)) = ((q + a * 256 : Nat) : Int) := by
 unfold eX; simp only [IntKind.wrap_u64]; omega
theorem acn (q a : Nat) (h : q + a * 256 < 131072) : eX ((q : Int) + eX (a : Int)) = ((q + a : Nat) : Int) := by
 unfold eX; simp only [IntKind.wrap_u64]; omega
theorem qH (A : Option Addr) (c : Nat) (bs : List Nat) (hb : ∀ b ∈ bs, b < 256) (hsz : bs.length ≤ 1000000) (w : World) (hB : Rd w .u8 A bs) :
 Calls Tryz.prog 67 #[.slice A bs.length c] w fun e w' => (∃ A' c', e = .returned (.slice A' (aB (bW bs)).length c') ∧ Dn w' A' c' (bW bs)) ∧ Below w.heap.size w w' := by
 have HB := Lib.hid hB
 have HY := Lib.hid hb
 obtain ⟨N, hN⟩ : ∃ N, N = bs.length := ⟨_, rfl⟩
 obtain ⟨L, hL⟩ : ∃ L, L = N / 2 + 1 := ⟨_, rfl⟩
 rw [← hN] at hsz
 have hmk : ∀ w, (Instr.makeSlice 45 (.int .i64 (L : Int)) (.int .i64 (L : Int))).run Tryz.prog w = .ok (.slice (some ⟨w.heap.size, 0, none⟩) L L) (w.alloc (.cells (row L fun _ => 0) 34)) := fun w => mW L (by omega) w
 have e0 : wrap64 ((N : Int) / 2) = ((N / 2 : Nat) : Int) := by rw [kX _ (by omega)]; omega
 have e1 : wrap64 ((N : Int) / 2 + 1) = (L : Int) := by rw [kX _ (by omega)]; omega
 rw [← hN]
 have HN := Lib.hid hN
 have HL := Lib.hid hL
 have HS := Lib.hid hsz
 clear hB hb hN hL hsz
 go_enter Tryz.func67, Tryz.ntmps67
 go_wp2_with fail
 go_loopw [4] (fun iv wr => ∃ (i : Nat) (fc : Nat → Nat) (x : World), iv = .int .i64 (i : Int) ∧ wr = x.pin w.heap.size (.cells (row (L) fc) 34) ∧ w.heap.size < x.heap.size ∧ Hid (Below w.heap.size w x ∧ i ≤ N ∧ Gw bs L i fc)) (fun iv _ => (N - intOf iv).toNat)
 case atStart => exact ⟨0, fun _ => 0, _, rfl, xI ob, sz, (pl (Below.refl _ _)), Nat.zero_le _, P8 bs _⟩
 case round =>
  obtain ⟨i, fc, x, rfl, rfl, q0, H⟩ := hrel
  by_cases hi : i < N
  · have hib : i < bs.length := by rw [← HN.out]; exact hi
    obtain ⟨b, off, rfl, hbw, hcell⟩ := HB.out.place (by omega)
    obtain ⟨a, ha⟩ : ∃ a, a = bs[i] := ⟨_, rfl⟩
    have hc : x.cell? ⟨b, off + i, none⟩ = some (.int .u8 (a : Int)) := by rw [ha]; exact (H.out.1.cell (p := ⟨b, off + i, none⟩) hbw).trans (hcell i hib)
    have ha2 : a < 256 := by rw [ha]; exact HY.out _ (List.getElem_mem _)
    have HA := Lib.hid (And.intro hib (And.intro (show bs[i]? = some a by rw [ha]; exact List.getElem?_eq_getElem hib) ha2))
    clear hcell ha hib ha2
    obtain ⟨j, hj⟩ : ∃ j, j = i / 2 := ⟨_, rfl⟩
    have hjL : j < L := by have := HL.out; omega
    have hjz : (j : Int) < (L : Int) := by omega
    have e2 : wrap64 ((i : Int) / 2) = (j : Int) := by rw [kX _ (by have := HS.out; omega)]; omega
    have hg := gV fc hjL
    have HJ := Lib.hid hj
    clear hj
    by_cases ho : i % 2 = 1
    · have o1 : ((i : Int).tmod 2 == 1) = true := by rw [beq_iff_eq, Int.tmod_eq_emod_of_nonneg (by omega)]; omega
      have o2 : ((i : Int) % 2 == 1) = true := by rw [beq_iff_eq]; omega
      have HO := Lib.hid ho
      clear ho
      go_wp2
      have HB2 := Lib.hid (ZV H.out.2.2 a HA.out.2.2)
      obtain ⟨hib, hia⟩ := List.getElem?_eq_some_iff.mp HA.out.2.1
      have hst := YD H.out.2.2 hib (by rw [← HJ.out]; exact hjL) (by rw [hia]; exact HA.out.2.2) HO.out
      rw [hia, ← HJ.out] at hst
      have hb2 := HB2.out
      rw [← HJ.out] at hb2
      exact ⟨⟨i + 1, _, x, Jl _ (by have := HS.out; omega), by rw [acj _ _ hb2, iy], q0, H.out.1, by omega, hst⟩, jd N i hi (by have := HS.out; omega)⟩
    · have o1 : ((i : Int).tmod 2 == 1) = false := by rw [beq_eq_false_iff_ne, Int.tmod_eq_emod_of_nonneg (by omega)]; omega
      have o2 : ((i : Int) % 2 == 1) = false := by rw [beq_eq_false_iff_ne]; omega
      have HO := Lib.hid ho
      clear ho
      go_wp2
      have HB2 := Lib.hid (ZV H.out.2.2 a HA.out.2.2)
      obtain ⟨hib, hia⟩ := List.getElem?_eq_some_iff.mp HA.out.2.1
      have hst := Va H.out.2.2 hib (by rw [← HJ.out]; exact hjL) (by rw [hia]; exact HA.out.2.2) HO.out
      rw [hia, ← HJ.out] at hst
      have hb2 := HB2.out
      rw [← HJ.out] at hb2
      exact ⟨⟨i + 1, _, x, Jl _ (by have := HS.out; omega), by rw [acn _ _ hb2, iy], q0, H.out.1, by omega, hst⟩, jd N i hi (by have := HS.out; omega)⟩
  · have hi' : i = N := by have := H.out.2.1; omega
    subst hi'
    have HE := Lib.hid (YC (by have := H.out.2.2; rw [show i = bs.length from HN.out] at this; exact this))
    go_wp2_with fail
    refine (ni w.heap.size (L) (fc) _ ob (HE.out).2 (by have := HS.out; have := HL.out; omega)).mono ?_
    rintro e y ⟨⟨A', c', rfl, hd⟩, hb⟩
    rw [(HE.out).1] at hd ⊢
    have pW := Lib.hid hb
    have EJ := Lib.hid hd
    clear hb hd
    go_wp2_with fail
    go_ret
    exact ⟨⟨A', c', rfl, EJ.out⟩, Below.trans (pl H.out.1) (pW.out.mono sz)⟩
theorem uN : aB Num.p = [65517, 65535, 65535, 65535, 65535, 65535, 65535, 65535, 65535, 65535, 65535, 65535, 65535, 65535, 65535, 32767] := by
 have h := kW [65517, 65535, 65535, 65535, 65535, 65535, 65535, 65535, 65535, 65535, 65535, 65535, 65535, 65535, 65535, 32767] (by decide) (by decide)
 have e : oC [65517, 65535, 65535, 65535, 65535, 65535, 65535, 65535, 65535, 65535, 65535, 65535, 65535, 65535, 65535, 32767] = Num.p := by decide
 rw [e] at h
 exact h
theorem lV (w : World)  :
 Calls Tryz.prog 94 #[] w fun e w' => (∃ A' c', e = .returned (.slice A' (aB (Num.p)).length c') ∧ Dn w' A' c' (Num.p)) ∧ Below w.heap.size w w' := by
 go_enter Tryz.func94, Tryz.ntmps94
 go_wp2
 go_ret
 refine ⟨⟨some ⟨w.heap.size, 0, none⟩, 16, ?_, ?_, ?_⟩, (pl (Below.refl _ _))⟩
 · rw [uN]; rfl
 · rw [uN]
   exact jC (alloc_at rfl) (by intro i hi; have hi' : i < 16 := hi; rcases i with _ | _ | _ | _ | _ | _ | _ | _ | _ | _ | _ | _ | _ | _ | _ | _ | i; all_goals first | rfl | omega)
 · rw [uN]; decide
end
section
open Go.RowKit Go.Proofs.YtehfkbaendajbaaGreatDoorW.PrintLast
theorem xK (w : World) (old cs : Array Value) (t : TypeId) : (w.alloc (.cells old t)).setRow w.heap.size cs = w.alloc (.cells cs t) := by
 simp only [World.setRow, World.alloc]
 congr 1
 apply Array.ext_getElem?
 intro k
 rw [Array.getElem?_modify, Array.getElem?_push, Array.getElem?_push]
 by_cases h : k = w.heap.size
 · subst h; simp
 · simp [h, Ne.symm h]
theorem Sm (N : Nat) (w : World) (b off c : Nat) (h : ∀ j, j < (aB N).length → w.cell? ⟨b, off + j, none⟩ = some (.int .u64 ((N / BB ^ j % BB : Nat) : Int))) (hl : 16 ≤ (aB N).length) (ty : TypeId) :
 (Builtin.copy_ #[45, 45] ty #[.slice (some ⟨w.heap.size, 0, none⟩) 16 16, .slice (some ⟨b, off, none⟩) 16 c]).run Tryz.prog (w.alloc (.cells (row 16 fun _ => 0) 34)) = .ok (.int .i64 16) (w.alloc (.cells (row 16 (dg N)) 34)) := by
 have hlen : ((List.range 16).map fun j => Value.int .u64 ((dg N j : Nat) : Int)).length = Nat.min 16 16 := by simp
 have e : ((row 16 fun _ => 0).toList.take 0 ++ ((List.range 16).map fun j => Value.int .u64 ((dg N j : Nat) : Int)) ++ (row 16 fun _ => 0).toList.drop (0 + ((List.range 16).map fun j => Value.int .u64 ((dg N j : Nat) : Int)).length)).toArray = row 16 (dg N) := by
  rw [List.take_zero, List.nil_append, List.drop_eq_nil_of_le (by simp [BN]), List.append_nil]
  rfl
 rw [run_copy_row (P := Tryz.prog) (w.alloc (.cells (row 16 fun _ => 0) 34)) 45 45 ty 34 w.heap.size 0 16 16 ⟨b, off, none⟩ 16 c (row 16 fun _ => 0) 34 ((List.range 16).map fun j => Value.int .u64 ((dg N j : Nat) : Int)) (by kernel_rfl) (by kernel_rfl) (heap_alloc_new w _) hlen ?_ (by simp [BN]) ?_]
 · rw [e, xK]
   rfl
 · intro j v hj
   have amH : j < 16 := by
    have := (List.getElem?_eq_some_iff.mp hj).1
    simpa using this
   have hv : v = .int .u64 ((dg N j : Nat) : Int) := by
    have := (List.getElem?_eq_some_iff.mp hj).2
    simp only [List.getElem_map, List.getElem_range] at this
    exact this.symm
   rw [Addr.add_lit, hv]
   have hc := h j (by omega)
   have hb := World.block_lt_of_cell? w _ hc
   exact (World.cell?_of_block (w := w) (w' := w.alloc _) (a := ⟨b, off + j, none⟩) (qJ hb)).trans hc
 · intro v hv
   obtain ⟨j, _, rfl⟩ := List.mem_map.mp hv
   rfl
theorem aer (ai aj : Nat) (h1 : ai < 65536) (h2 : aj < 65536) : eX (eX ((ai : Int) / 32768) + eX ((aj : Int) % 32768 * 2)) = ((ai / 32768 + aj % 32768 * 2 : Nat) : Int) := by
 unfold eX; simp only [IntKind.wrap_u64]; omega
theorem Zz (ai : Nat) (h1 : ai < 65536) : eX ((ai : Int) / 32768) = ((ai / 32768 + 0 % 32768 * 2 : Nat) : Int) := by
 unfold eX; simp only [IntKind.wrap_u64]; omega
theorem NK (A : Option Addr) (c X g : Nat) (hsx : (aB X).length ≤ 1000000) (w : World) (hX : Dn w A c X) (hg : w.heap[g]? = some (.cells #[.int .u64 19] 34)) :
    Calls Tryz.prog 99 #[.slice A (aB X).length c, .slice (some ⟨g, 0, none⟩) 1 1] w fun e w' => (∃ A' c', e = .returned (.slice A' (aB (X * 19)).length c') ∧ Dn w' A' c' (X * 19)) ∧ Below w.heap.size w w' := by
  have hD : Dn w (some ⟨g, 0, none⟩) 1 19 := by
    refine ⟨?_, by rw [MV]; decide⟩
    rw [MV]
    exact jC hg (by intro i hi; have : i = 0 := by simpa using hi
                    subst this; rfl)
  have h := times_any A (some ⟨g, 0, none⟩) c 1 X 19 hsx (by rw [MV]; decide) w hX hD
  rw [show (aB 19).length = 1 by rw [MV]; rfl] at h
  exact h
def N9 (w : World) (n N : Nat) (v : Value) (wr : World) : Prop := ∃ A c, v = .slice A (aB N).length c ∧ Below w.heap.size w wr ∧ Dn wr A c N ∧ N % Num.p = n % Num.p ∧ N ≤ n
theorem zS (A : Option Addr) (c n : Nat) (hsz : (aB n).length ≤ 1000000) (w : World) (hX : Dn w A c n) :
 Calls Tryz.prog 95 #[.slice A (aB n).length c] w fun e w' => (∃ A' c', e = .returned (.slice A' (aB (n % Num.p)).length c') ∧ Dn w' A' c' (n % Num.p)) ∧ Below w.heap.size w w' := by
 have HX := Lib.hid hX
 have HS := Lib.hid hsz
 have aev : ∀ w, (Instr.makeSlice 45 (.int .i64 16) (.int .i64 16)).run Tryz.prog w = .ok (.slice (some ⟨w.heap.size, 0, none⟩) 16 16) (w.alloc (.cells (row 16 fun _ => 0) 34)) := fun w => mW 16 (by decide) w
 clear hX hsz
 go_enter Tryz.func95, Tryz.ntmps95
 go_wp2_with fail
 go_loopw [0] (fun v wr => ∃ N, N9 w n N v wr) (fun v wr => pR fun N => N9 w n N v wr)
 case atStart => exact ⟨n, A, c, rfl, (pl (Below.refl _ _)), HX.out, rfl, Nat.le_refl _⟩
 case round =>
  obtain ⟨N, hNe⟩ : ∃ N, N = pR (fun N => N9 w n N u0 wr) := ⟨_, rfl⟩
  have hR : N9 w n N u0 wr := by rw [hNe]; exact (tu hrel).1
  clear hrel
  have HM := Lib.hid hNe
  clear hNe
  obtain ⟨A, c, rfl, hbl, hdn, hmod, hle⟩ := hR
  have Ji := Lib.hid hbl
  have HD := Lib.hid hdn
  have HN := Lib.hid (And.intro hmod hle)
  clear hbl hdn hmod hle
  obtain ⟨L, hL⟩ : ∃ L, L = (aB N).length := ⟨_, rfl⟩
  rw [← hL]
  rw [← hL] at HM
  have rD := Lib.hid hL
  have kN := Lib.hid (show L ≤ 1000000 by rw [hL]; exact Nat.le_trans (dK (Nat.lt_of_le_of_lt HN.out.2 (tC n))) HS.out)
  clear hL
  by_cases h16 : 16 ≤ L
  rotate_left
  · have hlz : ¬ (16 : Int) < (L : Int) := by omega
    have hez : ((L : Int) == 16) = false := by rw [beq_eq_false_iff_ne]; omega
    have hlt : (L : Int) < 16 := by omega
    have hNn : n % Num.p = N := by rw [← HN.out.1]; exact Nat.mod_eq_of_lt (XB (by have := rD.out; omega))
    have QV := Lib.hid hNn
    clear hNn
    go_wp2
    go_ret
    exact ⟨⟨A, c, by rw [QV.out, ← rD.out]; rfl, by rw [QV.out]; exact HD.out⟩, Ji.out⟩
  obtain ⟨b, off, rfl, hbw, hcell⟩ := HD.out.cell (i := 15) (by rw [← rD.out]; omega)
  have HC := Lib.hid hcell
  have EI := Lib.hid hbw
  clear hcell hbw
  by_cases c1 : 16 < L
  · have HG := Lib.hid (aa1 (by rw [← rD.out]; exact c1))
    obtain ⟨M, hM⟩ : ∃ M, M + 15 = L := ⟨L - 15, by omega⟩
    have hM1 : 1 ≤ M := by omega
    have hLi : (15 : Int) < (L : Int) := by omega
    have hLc : L ≤ c := by rw [rD.out]; exact HD.out.2
    have ais : 16 ≤ c := by omega
    have abB : ∀ w, (Instr.makeSlice 45 (.int .i64 (M : Int)) (.int .i64 (M : Int))).run Tryz.prog w = .ok (.slice (some ⟨w.heap.size, 0, none⟩) M M) (w.alloc (.cells (row M fun _ => 0) 34)) := fun w => mW M (by have := kN.out; omega) w
    have aiM : ∀ w, (Instr.makeSlice 45 (.int .i64 ((L : Int) - 15)) (.int .i64 ((L : Int) - 15))).run Tryz.prog w = .ok (.slice (some ⟨w.heap.size, 0, none⟩) M M) (w.alloc (.cells (row M fun _ => 0) 34)) := fun w => by rw [show (L : Int) - 15 = (M : Int) by omega]; exact abB w
    have e15 : wrap64 ((L : Int) - 15) = (M : Int) := by rw [kX _ (by have := kN.out; omega)]; omega
    have hcp := fun ty => Sm N wr b off c HC.out (by rw [← rD.out]; exact h16) ty
    have hca : ∀ o, (wr.alloc o).cell? ⟨b, off + 15, none⟩ = some (.int .u64 ((dg N 15 : Nat) : Int)) := fun o => (World.cell?_of_block (w := wr) (w' := wr.alloc o) (a := ⟨b, off + 15, none⟩) (qJ EI.out)).trans (HC.out 15 (by rw [← rD.out]; omega))
    have aiw := gV (dg N) (show 15 < 16 by decide)
    obtain ⟨a, ha⟩ : ∃ a, a = dg N 15 := ⟨_, rfl⟩
    rw [← ha] at hca
    have HA := Lib.hid ha
    have HMM := Lib.hid hM
    clear ha hM
    go_wp2
    try simp only [e15]
    (try clear hlz)
    (try clear c1)
    rw [show (row 16 (dg N)).setIfInBounds 15 (.int .u64 ((a : Int) % 32768)) = row 16 (upd (dg N) 15 (a % 32768)) by rw [show ((a : Int) % 32768) = ((a % 32768 : Nat) : Int) by omega, iy]]
    go_loopw [5] (fun iv wv => ∃ (i k : Nat) (fc : Nat → Nat) (x : World), iv = .int .i64 (i : Int) ∧ wv = (x.pin wr.heap.size (.cells (row (16) (upd (dg N) 15 (a % 32768))) 34)).pin (wr.heap.size + 1) (.cells (row (M) fc) 34) ∧ wr.heap.size < x.heap.size ∧ wr.heap.size + 1 < x.heap.size ∧ Hid (Below wr.heap.size wr x ∧ i = k + 15 ∧ k ≤ M ∧ HiI N k fc)) (fun iv _ => (L - intOf iv).toNat)
    case atStart => exact ⟨15, 0, fun _ => 0, _, rfl, Es ob ob, sz, sz, (pl (Below.refl wr.heap.size wr)), rfl, Nat.zero_le _, Ic N⟩
    case round =>
     obtain ⟨i, k, fc, x, rfl, rfl, q0, q1, H⟩ := hrel
     have LV : Hid (M + 15 = L) := HMM
     by_cases hk : i < L
     · obtain ⟨ai, hai⟩ : ∃ ai, ai = dg N i := ⟨_, rfl⟩
       have hci : x.cell? ⟨b, off + i, none⟩ = some (.int .u64 (ai : Int)) := by rw [hai]; exact (H.out.1.cell (p := ⟨b, off + i, none⟩) EI.out).trans (HC.out i (by rw [← rD.out]; exact hk))
       have LP := Lib.hid (And.intro hai (show ai < 65536 by rw [hai]; exact dR N i))
       clear hai
       have ek : wrap64 ((i : Int) - 15) = (k : Int) := by rw [kX _ (by have := kN.out; omega)]; have := H.out.2.1; omega
       have hkM : k < M := by have := H.out.2.1; have := LV.out; omega
       have hkz : (k : Int) < (M : Int) := by omega
       have hbx : b < wr.heap.size + 1 := by have := EI.out; omega
       have hbx0 := EI.out
       have hg := gV fc hkM
       obtain ⟨i1, hi1⟩ : ∃ j, j = i + 1 := ⟨_, rfl⟩
       have ei : wrap64 ((i : Int) + 1) = (i1 : Int) := by rw [kX _ (by have := kN.out; omega)]; omega
       have HI1 := Lib.hid hi1
       clear hi1
       by_cases hj : i1 < L
       · obtain ⟨aj, haj⟩ : ∃ aj, aj = dg N i1 := ⟨_, rfl⟩
         have hcj : x.cell? ⟨b, off + i1, none⟩ = some (.int .u64 (aj : Int)) := by rw [haj]; exact (H.out.1.cell (p := ⟨b, off + i1, none⟩) EI.out).trans (HC.out i1 (by rw [← rD.out]; exact hj))
         have Zn := Lib.hid (And.intro haj (show aj < 65536 by rw [haj]; exact dR N i1))
         clear haj
         have hjz : (i1 : Int) < (L : Int) := by omega
         go_wp2
         have hv := XV (N := N) (k := k) (ai := ai) (aj := aj) (by rw [LP.out.1, H.out.2.1]) (by rw [Zn.out.1, HI1.out, H.out.2.1])
         exact ⟨⟨i + 1, k + 1, _, x, Jl _ (by have := kN.out; omega), by rw [aer ai aj LP.out.2 Zn.out.2, iy], q0, q1, H.out.1, by have := H.out.2.1; omega, by omega, zX H.out.2.2.2 hv⟩, jd L i hk (by have := kN.out; omega)⟩
       · have hjz : ¬ (i1 : Int) < (L : Int) := by omega
         go_wp2
         have hv := XV (N := N) (k := k) (ai := ai) (aj := 0) (by rw [LP.out.1, H.out.2.1]) (by rw [show k + 15 + 1 = i1 by have := HI1.out; have := H.out.2.1; omega]; exact (wI N i1 (by have := rD.out; omega)).symm)
         exact ⟨⟨i + 1, k + 1, _, x, Jl _ (by have := kN.out; omega), by rw [Zz ai LP.out.2, iy], q0, q1, H.out.1, by have := H.out.2.1; omega, by omega, zX H.out.2.2.2 hv⟩, jd L i hk (by have := kN.out; omega)⟩
     · have hkM : k = M := by have := H.out.2; have := LV.out; omega
       subst hkM
       have HE := Lib.hid (TM H.out.2.2.2 (by have := rD.out; have := LV.out; omega))
       have HB1 : Hid (Below wr.heap.size wr x) := H.out.1
       have HLO := Lib.hid (Nz N)
       have HLD := Lib.hid (UL N)
       go_wp2_with fail
       refine (ni wr.heap.size 16 (upd (dg N) 15 (a % 32768)) _ ob (by rw [HA.out]; exact HLD.out) (by decide)).mono ?_
       rintro e y2 ⟨⟨A1, c1, rfl, hd1⟩, hb2⟩
       obtain ⟨x2, rfl, hc2, hz2, kD⟩ := bQ (b := wr.heap.size + 1) hb2 rfl ob
       have HB2 : Hid (Below wr.heap.size wr x2) := Below.trans (pl HB1.out) (hc2.mono sz)
       clear hb2 hc2
       try simp only [eF] at hz2
       have hv1 : fV 16 (upd (dg N) 15 (a % 32768)) = N % iP := by rw [HA.out]; exact HLO.out
       rw [hv1] at hd1 ⊢
       have HD1 := Lib.hid hd1
       clear hd1 hv1
       go_wp2_with fail
       refine (ni (wr.heap.size + 1) k fc _ ob HE.out.2 (by have := kN.out; have := LV.out; omega)).mono ?_
       rintro e x3 ⟨⟨A2, c2, rfl, hd2⟩, hb3⟩
       have HB3 : Hid (Below wr.heap.size wr x3) := Below.trans (pl HB2.out) (hb3.mono sz)
       have hz3 := HB3.out.size
       have QT := Lib.hid (HD1.out.next hb3)
       clear HD1
       have HD1 := QT
       clear QT
       clear hb3
       have hv2 := HE.out.1
       rw [hv2] at hd2 ⊢
       have HD2 := Lib.hid hd2
       clear hd2 hv2
       go_wp2_with fail
       have WX := Lib.hid (HD1.out.next (Below.alloc (Below.refl _ _) (Nat.le_refl _) (.cells #[.int .u64 19] 34)))
       refine (NK A2 c2 (N / iP) x3.heap.size (Nat.le_trans (sU (Nat.div_le_self _ _)) (by have := kN.out; have := rD.out; omega)) _ (HD2.out.next (Below.alloc (Below.refl _ _) (Nat.le_refl _) _)) (heap_alloc_new _ _)).mono ?_
       rintro e x4 ⟨⟨A3, c3, rfl, hd3⟩, hb4⟩
       have HB4 : Hid (Below wr.heap.size wr x4) := Below.trans (pl HB3.out) (hb4.mono sz)
       have lT := HB4.out.size
       have Gn := Lib.hid (WX.out.next hb4); have Gn := Lib.hid (WX.out.next hb4); clear hb4
       have HD3 := Lib.hid hd3
       clear hd3
       go_wp2_with fail
       refine (sum_any A1 A3 c1 c3 (N % iP) (N / iP * 19) (Nat.le_trans (dK (k := 16) (Nat.lt_trans (Nat.mod_lt _ (by decide)) (by decide))) (by decide)) (Nat.le_trans (sU (show N / iP * 19 ≤ N by have := (mY HG.out).1; omega)) (by have := kN.out; have := rD.out; omega)) _ Gn.out HD3.out).mono ?_
       rintro e x5 ⟨⟨A4, c4, rfl, hd4⟩, hb5⟩
       have kR : Hid (Below wr.heap.size wr x5) := Below.trans (pl HB4.out) (hb5.mono sz)
       have rP := kR.out.size
       clear hb5
       have HD4 := Lib.hid hd4
       clear hd4
       go_wp2_with fail
       have hq : N9 w n (N % iP + N / iP * 19) (.slice A4 (aB (N % iP + N / iP * 19)).length c4) x5 := ⟨A4, c4, rfl, Below.trans Ji.out (kR.out.mono Ji.out.size), HD4.out, (mY HG.out).2.trans HN.out.1, Nat.le_trans (Nat.le_of_lt (mY HG.out).1) HN.out.2⟩
       exact ⟨⟨_, hq⟩, yN hq (Nat.lt_of_lt_of_eq (mY HG.out).1 HM.out)⟩
  · have ahj := Lib.hid (show L = 16 by omega)
    have hlz : ¬ (16 : Int) < (L : Int) := by omega
    have hez : ((L : Int) == 16) = true := by rw [beq_iff_eq, ahj.out]; rfl
    obtain ⟨a0, ha0⟩ : ∃ a, a = dg N 15 := ⟨_, rfl⟩
    have rM : wr.cell? ⟨b, off + 15, none⟩ = some (.int .u64 (a0 : Int)) := by rw [ha0]; exact HC.out 15 (by rw [← rD.out]; omega)
    have HA0 := Lib.hid ha0
    clear ha0
    have ams : (15 : Int) < (L : Int) := by omega
    by_cases hbig : 32767 < a0
    · have HG := Lib.hid (SX (N := N) (by rw [← HA0.out]; exact hbig))
      have hbz : (32767 : Int) < (a0 : Int) := by omega
      obtain ⟨M, hM⟩ : ∃ M, M + 15 = L := ⟨L - 15, by omega⟩
      have hM1 : 1 ≤ M := by omega
      have hLi : (15 : Int) < (L : Int) := by omega
      have hLc : L ≤ c := by rw [rD.out]; exact HD.out.2
      have ais : 16 ≤ c := by omega
      have abB : ∀ w, (Instr.makeSlice 45 (.int .i64 (M : Int)) (.int .i64 (M : Int))).run Tryz.prog w = .ok (.slice (some ⟨w.heap.size, 0, none⟩) M M) (w.alloc (.cells (row M fun _ => 0) 34)) := fun w => mW M (by have := kN.out; omega) w
      have aiM : ∀ w, (Instr.makeSlice 45 (.int .i64 ((L : Int) - 15)) (.int .i64 ((L : Int) - 15))).run Tryz.prog w = .ok (.slice (some ⟨w.heap.size, 0, none⟩) M M) (w.alloc (.cells (row M fun _ => 0) 34)) := fun w => by rw [show (L : Int) - 15 = (M : Int) by omega]; exact abB w
      have e15 : wrap64 ((L : Int) - 15) = (M : Int) := by rw [kX _ (by have := kN.out; omega)]; omega
      have hcp := fun ty => Sm N wr b off c HC.out (by rw [← rD.out]; exact h16) ty
      have hca : ∀ o, (wr.alloc o).cell? ⟨b, off + 15, none⟩ = some (.int .u64 ((dg N 15 : Nat) : Int)) := fun o => (World.cell?_of_block (w := wr) (w' := wr.alloc o) (a := ⟨b, off + 15, none⟩) (qJ EI.out)).trans (HC.out 15 (by rw [← rD.out]; omega))
      have aiw := gV (dg N) (show 15 < 16 by decide)
      obtain ⟨a, ha⟩ : ∃ a, a = dg N 15 := ⟨_, rfl⟩
      rw [← ha] at hca
      have HA := Lib.hid ha
      have HMM := Lib.hid hM
      clear ha hM
      go_wp2
      try simp only [e15]
      (try clear hlz)
      (try clear c1)
      rw [show (row 16 (dg N)).setIfInBounds 15 (.int .u64 ((a : Int) % 32768)) = row 16 (upd (dg N) 15 (a % 32768)) by rw [show ((a : Int) % 32768) = ((a % 32768 : Nat) : Int) by omega, iy]]
      go_loopw [5] (fun iv wv => ∃ (i k : Nat) (fc : Nat → Nat) (x : World), iv = .int .i64 (i : Int) ∧ wv = (x.pin wr.heap.size (.cells (row (16) (upd (dg N) 15 (a % 32768))) 34)).pin (wr.heap.size + 1) (.cells (row (M) fc) 34) ∧ wr.heap.size < x.heap.size ∧ wr.heap.size + 1 < x.heap.size ∧ Hid (Below wr.heap.size wr x ∧ i = k + 15 ∧ k ≤ M ∧ HiI N k fc)) (fun iv _ => (L - intOf iv).toNat)
      case atStart => exact ⟨15, 0, fun _ => 0, _, rfl, Es ob ob, sz, sz, (pl (Below.refl wr.heap.size wr)), rfl, Nat.zero_le _, Ic N⟩
      case round =>
       obtain ⟨i, k, fc, x, rfl, rfl, q0, q1, H⟩ := hrel
       have LV : Hid (M + 15 = L) := HMM
       by_cases hk : i < L
       · obtain ⟨ai, hai⟩ : ∃ ai, ai = dg N i := ⟨_, rfl⟩
         have hci : x.cell? ⟨b, off + i, none⟩ = some (.int .u64 (ai : Int)) := by rw [hai]; exact (H.out.1.cell (p := ⟨b, off + i, none⟩) EI.out).trans (HC.out i (by rw [← rD.out]; exact hk))
         have LP := Lib.hid (And.intro hai (show ai < 65536 by rw [hai]; exact dR N i))
         clear hai
         have ek : wrap64 ((i : Int) - 15) = (k : Int) := by rw [kX _ (by have := kN.out; omega)]; have := H.out.2.1; omega
         have hkM : k < M := by have := H.out.2.1; have := LV.out; omega
         have hkz : (k : Int) < (M : Int) := by omega
         have hbx : b < wr.heap.size + 1 := by have := EI.out; omega
         have hbx0 := EI.out
         have hg := gV fc hkM
         obtain ⟨i1, hi1⟩ : ∃ j, j = i + 1 := ⟨_, rfl⟩
         have ei : wrap64 ((i : Int) + 1) = (i1 : Int) := by rw [kX _ (by have := kN.out; omega)]; omega
         have HI1 := Lib.hid hi1
         clear hi1
         by_cases hj : i1 < L
         · obtain ⟨aj, haj⟩ : ∃ aj, aj = dg N i1 := ⟨_, rfl⟩
           have hcj : x.cell? ⟨b, off + i1, none⟩ = some (.int .u64 (aj : Int)) := by rw [haj]; exact (H.out.1.cell (p := ⟨b, off + i1, none⟩) EI.out).trans (HC.out i1 (by rw [← rD.out]; exact hj))
           have Zn := Lib.hid (And.intro haj (show aj < 65536 by rw [haj]; exact dR N i1))
           clear haj
           have hjz : (i1 : Int) < (L : Int) := by omega
           go_wp2
           have hv := XV (N := N) (k := k) (ai := ai) (aj := aj) (by rw [LP.out.1, H.out.2.1]) (by rw [Zn.out.1, HI1.out, H.out.2.1])
           exact ⟨⟨i + 1, k + 1, _, x, Jl _ (by have := kN.out; omega), by rw [aer ai aj LP.out.2 Zn.out.2, iy], q0, q1, H.out.1, by have := H.out.2.1; omega, by omega, zX H.out.2.2.2 hv⟩, jd L i hk (by have := kN.out; omega)⟩
         · have hjz : ¬ (i1 : Int) < (L : Int) := by omega
           go_wp2
           have hv := XV (N := N) (k := k) (ai := ai) (aj := 0) (by rw [LP.out.1, H.out.2.1]) (by rw [show k + 15 + 1 = i1 by have := HI1.out; have := H.out.2.1; omega]; exact (wI N i1 (by have := rD.out; omega)).symm)
           exact ⟨⟨i + 1, k + 1, _, x, Jl _ (by have := kN.out; omega), by rw [Zz ai LP.out.2, iy], q0, q1, H.out.1, by have := H.out.2.1; omega, by omega, zX H.out.2.2.2 hv⟩, jd L i hk (by have := kN.out; omega)⟩
       · have hkM : k = M := by have := H.out.2; have := LV.out; omega
         subst hkM
         have HE := Lib.hid (TM H.out.2.2.2 (by have := rD.out; have := LV.out; omega))
         have HB1 : Hid (Below wr.heap.size wr x) := H.out.1
         have HLO := Lib.hid (Nz N)
         have HLD := Lib.hid (UL N)
         go_wp2_with fail
         refine (ni wr.heap.size 16 (upd (dg N) 15 (a % 32768)) _ ob (by rw [HA.out]; exact HLD.out) (by decide)).mono ?_
         rintro e y2 ⟨⟨A1, c1, rfl, hd1⟩, hb2⟩
         obtain ⟨x2, rfl, hc2, hz2, kD⟩ := bQ (b := wr.heap.size + 1) hb2 rfl ob
         have HB2 : Hid (Below wr.heap.size wr x2) := Below.trans (pl HB1.out) (hc2.mono sz)
         clear hb2 hc2
         try simp only [eF] at hz2
         have hv1 : fV 16 (upd (dg N) 15 (a % 32768)) = N % iP := by rw [HA.out]; exact HLO.out
         rw [hv1] at hd1 ⊢
         have HD1 := Lib.hid hd1
         clear hd1 hv1
         go_wp2_with fail
         refine (ni (wr.heap.size + 1) k fc _ ob HE.out.2 (by have := kN.out; have := LV.out; omega)).mono ?_
         rintro e x3 ⟨⟨A2, c2, rfl, hd2⟩, hb3⟩
         have HB3 : Hid (Below wr.heap.size wr x3) := Below.trans (pl HB2.out) (hb3.mono sz)
         have hz3 := HB3.out.size
         have QT := Lib.hid (HD1.out.next hb3)
         clear HD1
         have HD1 := QT
         clear QT
         clear hb3
         have hv2 := HE.out.1
         rw [hv2] at hd2 ⊢
         have HD2 := Lib.hid hd2
         clear hd2 hv2
         go_wp2_with fail
         have WX := Lib.hid (HD1.out.next (Below.alloc (Below.refl _ _) (Nat.le_refl _) (.cells #[.int .u64 19] 34)))
         refine (NK A2 c2 (N / iP) x3.heap.size (Nat.le_trans (sU (Nat.div_le_self _ _)) (by have := kN.out; have := rD.out; omega)) _ (HD2.out.next (Below.alloc (Below.refl _ _) (Nat.le_refl _) _)) (heap_alloc_new _ _)).mono ?_
         rintro e x4 ⟨⟨A3, c3, rfl, hd3⟩, hb4⟩
         have HB4 : Hid (Below wr.heap.size wr x4) := Below.trans (pl HB3.out) (hb4.mono sz)
         have lT := HB4.out.size
         have Gn := Lib.hid (WX.out.next hb4); clear hb4
         have HD3 := Lib.hid hd3
         clear hd3
         go_wp2_with fail
         refine (sum_any A1 A3 c1 c3 (N % iP) (N / iP * 19) (Nat.le_trans (dK (k := 16) (Nat.lt_trans (Nat.mod_lt _ (by decide)) (by decide))) (by decide)) (Nat.le_trans (sU (show N / iP * 19 ≤ N by have := (mY HG.out).1; omega)) (by have := kN.out; have := rD.out; omega)) _ Gn.out HD3.out).mono ?_
         rintro e x5 ⟨⟨A4, c4, rfl, hd4⟩, hb5⟩
         have kR : Hid (Below wr.heap.size wr x5) := Below.trans (pl HB4.out) (hb5.mono sz)
         have rP := kR.out.size
         clear hb5
         have HD4 := Lib.hid hd4
         clear hd4
         go_wp2_with fail
         have hq : N9 w n (N % iP + N / iP * 19) (.slice A4 (aB (N % iP + N / iP * 19)).length c4) x5 := ⟨A4, c4, rfl, Below.trans Ji.out (kR.out.mono Ji.out.size), HD4.out, (mY HG.out).2.trans HN.out.1, Nat.le_trans (Nat.le_of_lt (mY HG.out).1) HN.out.2⟩
         exact ⟨⟨_, hq⟩, yN hq (Nat.lt_of_lt_of_eq (mY HG.out).1 HM.out)⟩
    · have hbz : ¬ (32767 : Int) < (a0 : Int) := by omega
      have hsz : ¬ (L : Int) < 16 := by omega
      by_cases hsm : a0 < 32767
      · have aiP : (a0 : Int) < 32767 := by omega
        have QV : Hid (n % Num.p = N) := by rw [← HN.out.1]; exact Lib.hid (Nat.mod_eq_of_lt (afe (D9 (by rw [← rD.out]; omega) (by rw [← HA0.out]; exact hsm))))
        go_wp2
        go_ret
        exact ⟨⟨some ⟨b, off, none⟩, c, by rw [QV.out, ← rD.out]; rfl, by rw [QV.out]; exact HD.out⟩, Ji.out⟩
      · have aiP : ¬ (a0 : Int) < 32767 := by omega
        have aC : Hid (N < iP) := Lib.hid (Yp (D9 (by rw [← rD.out]; omega) (by rw [← HA0.out]; omega)))
        have HDL : Hid (Dn wr (some ⟨b, off, none⟩) c N) := HD
        by_cases hp : N < Num.p
        · have hpd : decide (N < Num.p) = true := decide_eq_true hp
          have QV : Hid (n % Num.p = N) := by rw [← HN.out.1]; exact Lib.hid (Nat.mod_eq_of_lt hp)
          clear hp
          go_wp2_with fail
          refine (lV _).mono ?_
          rintro e x1 ⟨⟨A1, c1, rfl, hd1⟩, hb1⟩
          have HB1 : Hid (Below wr.heap.size wr x1) := Below.trans (pl (Below.refl _ _)) (hb1.mono sz)
          have hz1 := HB1.out.size
          clear hb1
          have HD1 := Lib.hid hd1
          clear hd1
          have HDN := Lib.hid (HD.out.mono HB1.out (Nat.le_refl _))
          rw [rD.out]
          go_wp2_with fail
          refine (jU (some ⟨b, off, none⟩) A1 c c1 N Num.p (by have := kN.out; have := rD.out; omega) _ HDN.out HD1.out).mono ?_
          rintro e x2 ⟨rfl, hb2⟩
          have HB2 : Hid (Below wr.heap.size wr x2) := Below.trans (pl HB1.out) (hb2.mono sz)
          have hz2 := HB2.out.size
          clear hb2
          go_wp2_with fail
          go_ret
          exact ⟨⟨some ⟨b, off, none⟩, c, by rw [QV.out]; rfl, by rw [QV.out]; exact HD.out.mono HB2.out (Nat.le_refl _)⟩, Below.trans Ji.out (HB2.out.mono Ji.out.size)⟩
        · have hpd : decide (N < Num.p) = false := decide_eq_false hp
          have QV : Hid (n % Num.p = N - Num.p) := by rw [← HN.out.1]; exact Lib.hid (Yv aC.out hp).symm
          have HPN := Lib.hid (Nat.le_of_not_lt hp)
          clear hp
          go_wp2_with fail
          refine (lV _).mono ?_
          rintro e x1 ⟨⟨A1, c1, rfl, hd1⟩, hb1⟩
          have HB1 : Hid (Below wr.heap.size wr x1) := Below.trans (pl (Below.refl _ _)) (hb1.mono sz)
          have hz1 := HB1.out.size
          clear hb1
          have HD1 := Lib.hid hd1
          clear hd1
          have HDN := Lib.hid (HD.out.mono HB1.out (Nat.le_refl _))
          rw [rD.out]
          go_wp2_with fail
          refine (jU (some ⟨b, off, none⟩) A1 c c1 N Num.p (by have := kN.out; have := rD.out; omega) _ HDN.out HD1.out).mono ?_
          rintro e x2 ⟨rfl, hb2⟩
          have HB2 : Hid (Below wr.heap.size wr x2) := Below.trans (pl HB1.out) (hb2.mono sz)
          have hz2 := HB2.out.size
          clear hb2
          go_wp2_with fail
          refine (lV _).mono ?_
          rintro e x3 ⟨⟨A3, c3, rfl, hd3⟩, hb3⟩
          have HB3 : Hid (Below wr.heap.size wr x3) := Below.trans (pl HB2.out) (hb3.mono sz)
          have hz3 := HB3.out.size
          clear hb3
          have HD3 := Lib.hid hd3
          clear hd3
          have HDM := Lib.hid (HD.out.mono HB3.out (Nat.le_refl _))
          go_wp2_with fail
          refine (yO (some ⟨b, off, none⟩) A3 c c3 N Num.p (by have := kN.out; have := rD.out; omega) HPN.out _ HDM.out HD3.out).mono ?_
          rintro e x4 ⟨⟨A4, c4, rfl, hd4⟩, hb4⟩
          have HB4 : Hid (Below wr.heap.size wr x4) := Below.trans (pl HB3.out) (hb4.mono sz)
          have lT := HB4.out.size
          clear hb4
          have HD4 := Lib.hid hd4
          clear hd4
          go_wp2_with fail
          go_ret
          exact ⟨⟨A4, c4, by rw [QV.out]; rfl, by rw [QV.out]; exact HD4.out⟩, Below.trans Ji.out (HB4.out.mono Ji.out.size)⟩
end
section
open Go.RowKit Go.Proofs.YtehfkbaendajbaaGreatDoorW.PrintLast
theorem vK (k : Nat) : (intOf (.int .i64 ((k : Int) - 1)) + 1).toNat < (intOf (.int .i64 (k : Int)) + 1).toNat := by
 show ((k : Int) - 1 + 1).toNat < ((k : Int) + 1).toNat
 omega
theorem vql (l : Nat) (h : l < 18446744073709551616) : Value.int .u64 (eX ((l : Int) / 65536)) = Value.int .u64 ((l / BB : Nat) : Int) := congrArg (Value.int .u64) (by unfold eX; simp only [IntKind.wrap_u64, BB]; omega)
end
section
open Go.RowKit Go.Proofs.YtehfkbaendajbaaGreatDoorW.PrintLast
theorem Az {B b : Nat} {a w : World} {o : Obj} (h : Below B a w) (hb : a.heap[b]? = some o) (hlt : b < w.heap.size) : Below B a (w.pin b o) :=
 h.trans ⟨rfl, rfl, rfl, by simp [World.pin], fun k hk => by
  by_cases e : k = b
  · subst e; rw [eY hlt, h.block k hk, hb]
  · rw [je e]⟩
theorem Xn (n i bv : Nat) (hb : bv = zV n (i / 8)) : n / 2 ^ i % 2 = bv / 2 ^ (i % 8) % 2 := by
 rw [hb, zV, show (256 : Nat) = 2 ^ 8 from rfl, MC _ _ _ (Nat.mod_lt _ (by decide)), Nat.div_div_eq_div_mul, ← Nat.pow_mul, ← Nat.pow_add, Nat.div_add_mod]
theorem OI (n i bv : Nat) (h : i < 255) (hbit : n / 2 ^ i % 2 = bv / 2 ^ (i % 8) % 2) :
 (um (dI (n % 2 ^ i))).setIfInBounds (i / 51) (.int .u64 (eX ((fU (dI (n % 2 ^ i)) (i / 51) : Int) + eX (((bv : Int) / 2 ^ (i % 8)).tmod 2 * 2 ^ (i % 51))))) = um (dI (n % 2 ^ (i + 1))) := by
 have e1 : ((bv : Int) / 2 ^ (i % 8)) = ((bv / 2 ^ (i % 8) : Nat) : Int) := by rw [Int.natCast_ediv, Int.natCast_pow]; rfl
 have e2 : (((bv / 2 ^ (i % 8) : Nat) : Int)).tmod 2 = ((n / 2 ^ i % 2 : Nat) : Int) := by
  rw [hbit]
  generalize bv / 2 ^ (i % 8) = z
  rw [Int.tmod_eq_emod_of_nonneg (by omega)]; omega
 have hb2 : n / 2 ^ i % 2 < 2 := Nat.mod_lt _ (by decide)
 have hr : i % 51 < 51 := Nat.mod_lt _ (by decide)
 have hq : 2 ^ (i % 51) ≤ 2 ^ 50 := Nat.pow_le_pow_right (by decide) (by omega)
 have hm : n / 2 ^ i % 2 * 2 ^ (i % 51) ≤ 2 ^ 50 := by
  have : n / 2 ^ i % 2 = 0 ∨ n / 2 ^ i % 2 = 1 := by omega
  rcases this with e | e <;> rw [e] <;> omega
 have e3 : eX (((n / 2 ^ i % 2 : Nat) : Int) * 2 ^ (i % 51)) = ((n / 2 ^ i % 2 * 2 ^ (i % 51) : Nat) : Int) := by
  have e4 : ((2 : Int) ^ (i % 51)) = ((2 ^ (i % 51) : Nat) : Int) := by rw [Int.natCast_pow]; rfl
  rw [e4, ← Int.natCast_mul, nH _ (by omega)]
 have hx : fU (dI (n % 2 ^ i)) (i / 51) < 2 ^ (i % 51) := by
  rw [jL _ _ (by omega)]
  exact Nat.lt_of_le_of_lt (Nat.mod_le _ _) (aa0 51 n i)
 have hnew : fU (dI (n % 2 ^ i)) (i / 51) + n / 2 ^ i % 2 * 2 ^ (i % 51) = fU (dI (n % 2 ^ (i + 1))) (i / 51) := by
  rw [jL _ _ (by omega), jL _ _ (by omega), SG 51 n i (by decide)]
 rw [e1, e2, e3, ← Int.natCast_add, nH _ (by omega), hnew]
 apply Array.ext_getElem?
 intro k
 by_cases hk : k < 5
 · rw [nM _ k hk]
   by_cases hk2 : i / 51 = k
   · subst hk2
     rw [Array.getElem?_setIfInBounds_self_of_lt (by simp [um]; omega)]
   · rw [Array.getElem?_setIfInBounds_ne hk2, nM _ k hk]
     rw [jL _ _ hk, jL _ _ hk, MO 51 n i k (by decide) (Ne.symm hk2)]
 · rw [Array.getElem?_eq_none (by simp [um]; omega), Array.getElem?_eq_none (by simp [um]; omega)]
theorem QS (A : Option Addr) (c n : Nat) (hn : n < BB ^ 16) (w : World) (hX : Dn w A c n) :
 Calls Tryz.prog 104 #[.slice A (aB n).length c] w fun e w' => e = .returned (dI (n % 2 ^ 255)).v ∧ Below w.heap.size w w' := by
 have HX := Lib.hid hX
 have HN := Lib.hid hn
 clear hX hn
 go_enter Tryz.func104, Tryz.ntmps104
 go_wp2_with fail
 refine (iE A c n HN.out _ (HX.out.next (Below.alloc (Below.refl _ _) (Nat.le_refl _) _))).mono ?_
 rintro e y1 ⟨⟨b, rfl, hrd⟩, hb1⟩
 obtain ⟨x1, rfl, hc1, hz1, l10⟩ := bQ (b := w.heap.size) hb1 rfl ob
 have HB1 : Hid (Below w.heap.size w x1) := Below.trans (pl (Below.refl _ _)) (hc1.mono sz)
 clear hb1 hc1
 try simp only [eF] at hz1
 have fM := Lib.hid hrd
 clear hrd
 obtain ⟨hbw, hcell⟩ : b < (x1.pin w.heap.size (.cells #[.int .u64 0, .int .u64 0, .int .u64 0, .int .u64 0, .int .u64 0] 36)).heap.size ∧ ∀ i, (hi : i < (dw 32 n).length) → (x1.pin w.heap.size (.cells #[.int .u64 0, .int .u64 0, .int .u64 0, .int .u64 0, .int .u64 0] 36)).cell? ⟨b, 0 + i, none⟩ = some (.int .u8 (((dw 32 n)[i]'hi : Nat) : Int)) := by
  obtain ⟨b', off, he, hb, hc⟩ := fM.out.place (by rw [kV]; decide)
  simp only [Option.some.injEq, Addr.mk.injEq] at he
  obtain ⟨rfl, rfl, _⟩ := he
  exact ⟨hb, hc⟩
 have HC := Lib.hid hcell
 clear hcell
 go_wp2_with fail
 obtain ⟨wi, hwi⟩ : ∃ z, z = x1.pin w.heap.size (.cells #[.int .u64 0, .int .u64 0, .int .u64 0, .int .u64 0, .int .u64 0] 36) := ⟨_, rfl⟩
 have HBi : Hid (Below w.heap.size w wi) := Lib.hid (by rw [hwi]; exact (pl HB1.out))
 have hwz : w.heap.size < wi.heap.size := by rw [hwi]; (first | omega | (simp only [World.size_alloc, aA, World.size_drew, World.size_setCell] <;> omega))
 have hblk : wi.heap[w.heap.size]? = some (.cells #[.int .u64 0, .int .u64 0, .int .u64 0, .int .u64 0, .int .u64 0] 36) := by rw [hwi]; exact eY l10
 have hsz : x1.heap.size = wi.heap.size := by rw [hwi, aA]
 rw [← hwi] at HC hbw fM ⊢
 try rw [hsz]
 clear hwi HB1 hsz
 go_loopw [5] (fun iv wr => ∃ (i : Nat) (x : World), iv = .int .i64 (i : Int) ∧ wr = (x.pin w.heap.size (.cells #[.int .u64 0, .int .u64 0, .int .u64 0, .int .u64 0, .int .u64 0] 36)).pin wi.heap.size (.cells (um (dI (n % 2 ^ i))) 36) ∧ w.heap.size < x.heap.size ∧ wi.heap.size < x.heap.size ∧ Hid (Below wi.heap.size wi x ∧ i ≤ 255)) (fun iv _ => (255 - intOf iv).toNat)
 case atStart => exact ⟨0, _, rfl, FQ (jw hblk hwz) (alloc_at rfl) rfl (by rw [Nat.pow_zero, Nat.mod_one]; rfl), sz, sz, Below.alloc (Below.refl _ _) (Nat.le_refl _) _, by omega⟩
 case round =>
  obtain ⟨i, x, rfl, rfl, q0, q1, H⟩ := hrel
  by_cases hlt : i < 255
  · obtain ⟨j, hj⟩ : ∃ j, j = i / 8 := ⟨_, rfl⟩
    obtain ⟨m, hm⟩ : ∃ m, m = i / 51 := ⟨_, rfl⟩
    obtain ⟨r, hr⟩ : ∃ r, r = i % 51 := ⟨_, rfl⟩
    obtain ⟨q, hq⟩ : ∃ q, q = i % 8 := ⟨_, rfl⟩
    have Bf : j < (dw 32 n).length := by rw [kV]; omega
    obtain ⟨bv, hbv⟩ : ∃ b, b = (dw 32 n)[j] := ⟨_, rfl⟩
    obtain ⟨lim, hlim⟩ : ∃ l, l = fU (dI (n % 2 ^ i)) m := ⟨_, rfl⟩
    have hA : ((x.pin w.heap.size (.cells #[.int .u64 0, .int .u64 0, .int .u64 0, .int .u64 0, .int .u64 0] 36)).pin wi.heap.size (.cells (um (dI (n % 2 ^ i))) 36)).cell? ⟨b, j, none⟩ = some (.int .u8 bv) := by
     have h1 := HC.out j Bf
     rw [Nat.zero_add] at h1
     rw [hbv]
     exact ((jS (Az H.out.1 hblk q0) (Nat.le_refl _)).cell (p := ⟨b, j, none⟩) hbw).trans h1
    have hL : (um (dI (n % 2 ^ i)))[m]? = some (.int .u64 lim) := by rw [nM _ _ (by omega), hlim]
    have b1 : (j : Int) < 32 := by omega
    have b3 : (m : Int) < 5 := by omega
    have b4 : r < 64 := by omega
    have b5 : q < 8 := by omega
    have e1 : IntKind.i64.wrap ((i : Int) / 8) = (j : Int) := (IntWalk.i64_in _ (by omega)).trans (by omega)
    have e2 : IntKind.i64.wrap ((i : Int) / 51) = (m : Int) := (IntWalk.i64_in _ (by omega)).trans (by omega)
    have e3 : (i : Int).tmod 51 = (r : Int) := by rw [Int.tmod_eq_emod_of_nonneg (by omega)]; omega
    have e4 : (i : Int).tmod 8 = (q : Int) := by rw [Int.tmod_eq_emod_of_nonneg (by omega)]; omega
    have hb256 : bv < 256 := by rw [hbv]; exact qj _ _ _ (List.getElem_mem _)
    have s1 : eX (q : Int) = (q : Int) := nH q (by omega)
    have s2 : eX (r : Int) = (r : Int) := nH r (by omega)
    have s3 : eX (bv : Int) = (bv : Int) := nH bv (by omega)
    have ako := Lib.hid hb256
    clear hb256
    have HV := Lib.hid (And.intro hj (And.intro hm (And.intro hr (And.intro hq (And.intro hbv hlim)))))
    clear hj hm hr hq hbv hlim
    go_wp2
    have hst : (um (dI (n % 2 ^ i))).setIfInBounds m (.int .u64 (eX ((lim : Int) + eX (((bv : Int) / 2 ^ q).tmod 2 * 2 ^ r)))) = um (dI (n % 2 ^ (i + 1))) := by
     obtain ⟨h1, h2, h3, h4, h5, h6⟩ := HV.out
     have hbit := Xn n i bv (by rw [h5]; simp only [dw, List.getElem_map, List.getElem_range, h1])
     have h0 := OI n i bv hlt hbit
     rw [h6, h2, h3, h4]
     exact h0
    exact ⟨⟨i + 1, x, vi0 i, by rw [hst], q0, q1, H.out.1, by omega⟩, tH 255 i hlt⟩
  · have hi : i = 255 := by have := H.out.2; omega
    subst hi
    obtain ⟨s, hs⟩ : ∃ s, s = dI (n % 2 ^ 255) := ⟨_, rfl⟩
    rw [← hs, show um s = #[.int .u64 s.a, .int .u64 s.b, .int .u64 s.c, .int .u64 s.d, .int .u64 s.e] from rfl]
    have HSs := Lib.hid hs
    clear hs
    go_wp2
    refine bodyPost_ret (v := s.v) ?_ rfl ⟨by rw [HSs.out], ?_⟩
    · simp [results, Tryz.results104, go_sem, q0, q1, hwz]
    · exact (pl (Below.trans HBi.out (H.out.1.mono HBi.out.size)))
end
section
open Go.RowKit Go.Proofs.YtehfkbaendajbaaGreatDoorW.PrintLast
theorem Qn {n : Nat} (h : n < Num.p) : dI (n % 2 ^ 255) = small n := by
 unfold small
 rw [Nat.mod_eq_of_lt h, Nat.mod_eq_of_lt (Nat.lt_of_lt_of_le h (by decide))]
theorem tK {n : Nat} (h : n < Num.p) : n < BB ^ 16 := Nat.lt_of_lt_of_le h (by decide)
theorem Ep {n : Nat} (h : n < Num.p) : (aB n).length ≤ 1000000 := Nat.le_trans (dK (tK h)) (by decide)
theorem WQ (A : Option Addr) (c n : Nat) (s : Fn) (hn : n < Num.p) (hs : s = small n) (w : World) (hX : Dn w A c n) : Calls Tryz.prog 104 #[.slice A (aB n).length c] w fun e w' => e = .returned s.v ∧ Below w.heap.size w w' := by
 have h := QS A c n (tK hn) w hX
 rw [Qn hn, ← hs] at h
 exact h
theorem Oe (A B : Option Addr) (c d X Y : Nat) (hsx : (aB X).length ≤ 1000000) (hsy : (aB Y).length ≤ 1000000) (w : World) (hX : Dn w A c X) (hY : Dn w B d Y) :
 Calls Tryz.prog 119 #[.slice A (aB X).length c, .slice B (aB Y).length d] w fun e w' => e = .returned (.bool (decide (X = Y))) ∧ Below w.heap.size w w' := by
 have HX := Lib.hid hX
 have HY := Lib.hid hY
 have HSX := Lib.hid hsx
 have HSY := Lib.hid hsy
 clear hX hY hsx hsy
 by_cases h1 : X < Y
 · have d1 : decide (X < Y) = true := decide_eq_true h1
   have HE := Lib.hid (show decide (X = Y) = false from decide_eq_false (by omega))
   clear h1
   go_enter Tryz.func119, Tryz.ntmps119
   go_wp2_with fail
   refine (jU A B c d X Y HSX.out _ HX.out HY.out).mono ?_
   rintro e x1 ⟨rfl, hb1⟩
   have HB1 : Hid (Below w.heap.size w x1) := Below.trans (pl (Below.refl _ _)) (hb1.mono sz)
   have hz1 := HB1.out.size
   clear hb1
   go_wp2_with fail
   go_ret
   exact ⟨by rw [HE.out]; rfl, (pl HB1.out)⟩
 · have d1 : decide (X < Y) = false := decide_eq_false h1
   by_cases h2 : Y < X
   · have d2 : decide (Y < X) = true := decide_eq_true h2
     have HE := Lib.hid (show decide (X = Y) = false from decide_eq_false (by omega))
     clear h1 h2
     go_enter Tryz.func119, Tryz.ntmps119
     go_wp2_with fail
     refine (jU A B c d X Y HSX.out _ HX.out HY.out).mono ?_
     rintro e x1 ⟨rfl, hb1⟩
     have HB1 : Hid (Below w.heap.size w x1) := Below.trans (pl (Below.refl _ _)) (hb1.mono sz)
     have hz1 := HB1.out.size
     clear hb1
     go_wp2_with fail
     refine (jU B A d c Y X HSY.out _ (HY.out.mono HB1.out (Nat.le_refl _)) (HX.out.mono HB1.out (Nat.le_refl _))).mono ?_
     rintro e x2 ⟨rfl, hb2⟩
     have HB2 := aZ HB1.out hb2
     have hz2 := HB2.out.size
     clear hb2
     go_wp2_with fail
     go_ret
     exact ⟨by rw [HE.out]; rfl, (pl HB2.out)⟩
   · have d2 : decide (Y < X) = false := decide_eq_false h2
     have HE := Lib.hid (show decide (X = Y) = true from decide_eq_true (by omega))
     clear h1 h2
     go_enter Tryz.func119, Tryz.ntmps119
     go_wp2_with fail
     refine (jU A B c d X Y HSX.out _ HX.out HY.out).mono ?_
     rintro e x1 ⟨rfl, hb1⟩
     have HB1 : Hid (Below w.heap.size w x1) := Below.trans (pl (Below.refl _ _)) (hb1.mono sz)
     have hz1 := HB1.out.size
     clear hb1
     go_wp2_with fail
     refine (jU B A d c Y X HSY.out _ (HY.out.mono HB1.out (Nat.le_refl _)) (HX.out.mono HB1.out (Nat.le_refl _))).mono ?_
     rintro e x2 ⟨rfl, hb2⟩
     have HB2 := aZ HB1.out hb2
     have hz2 := HB2.out.size
     clear hb2
     go_wp2_with fail
     go_ret
     exact ⟨by rw [HE.out]; rfl, (pl HB2.out)⟩
theorem Rx (A : Option Addr) (c : Nat) (bs : List Nat) (hb : ∀ b ∈ bs, b < 256) (w : World) (hB : Rd w .u8 A bs) :
 Calls Tryz.prog 65 #[.slice A bs.length c] w fun e w' => e = .returned (.tuple #[(SK bs).v, .int .i64 (AP bs)]) ∧ Below w.heap.size w w' := by
 have HB := Lib.hid hB
 have HY := Lib.hid hb
 obtain ⟨N, hN⟩ : ∃ N, N = bs.length := ⟨_, rfl⟩
 clear hB hb
 by_cases hl : bs.length = 32
 · have HL := Lib.hid hl
   have hd : ((bs.length : Int) != 32) = false := by rw [hl]; rfl
   clear hl
   by_cases hp : bW bs < Num.p
   · have hpd : decide (bW bs < Num.p) = true := decide_eq_true hp
     have HP := Lib.hid hp
     clear hp
     go_enter Tryz.func65, Tryz.ntmps65
     go_wp2_with fail
     refine (qH A c bs HY.out (by rw [HL.out]; decide) _ (HB.out.mono (Below.alloc (Below.refl _ _) (Nat.le_refl _) _) (Nat.le_refl _))).mono ?_
     rintro e y1 ⟨⟨A1, c1, rfl, hd1⟩, hb1⟩
     obtain ⟨x1, rfl, hc1, hz1, l10⟩ := bQ (b := w.heap.size) hb1 rfl ob
     have HB1 : Hid (Below w.heap.size w x1) := Below.trans (pl (Below.refl _ _)) (hc1.mono sz)
     clear hb1 hc1
     try simp only [eF] at hz1
     have HD1 := Lib.hid hd1
     clear hd1
     go_wp2_with fail
     refine (lV _).mono ?_
     rintro e y2 ⟨⟨A2, c2, rfl, hd2⟩, hb2⟩
     have Gn := Lib.hid (HD1.out.next hb2)
     obtain ⟨x2, rfl, hc2, hz2, kD⟩ := bQ (b := w.heap.size) hb2 rfl ob
     have HB2 := aZ HB1.out hc2
     clear hb2 hc2
     try simp only [eF] at hz2
     have HD2 := Lib.hid hd2
     clear hd2
     go_wp2_with fail
     refine (jU A1 A2 c1 c2 (bW bs) Num.p (Nat.le_trans (dK (k := 16) (Nat.lt_of_lt_of_eq (oD bs HY.out) (by rw [HL.out]; decide))) (by decide)) _ Gn.out HD2.out).mono ?_
     rintro e y3 ⟨rfl, hb3⟩
     obtain ⟨x3, rfl, hc3, hz3, nN⟩ := bQ (b := w.heap.size) hb3 rfl ob
     have HB3 := aZ HB2.out hc3
     clear hb3 hc3
     try simp only [eF] at hz3
     go_wp2_with fail
     refine (qH A c bs HY.out (by rw [HL.out]; decide) _ (HB.out.mono (show Below w.heap.size w _ from (pl HB3.out)) (Nat.le_refl _))).mono ?_
     rintro e y4 ⟨⟨A4, c4, rfl, hd4⟩, hb4⟩
     obtain ⟨x4, rfl, hc4, lT, rU⟩ := bQ (b := w.heap.size) hb4 rfl ob
     have HB4 := aZ HB3.out hc4
     clear hb4 hc4
     try simp only [eF] at lT
     have HD4 := Lib.hid hd4
     clear hd4
     go_wp2_with fail
     refine (WQ A4 c4 (bW bs) (small (bW bs)) HP.out rfl _ HD4.out).mono ?_
     rintro e y5 ⟨rfl, hb5⟩
     obtain ⟨x5, rfl, hc5, rP, Ae⟩ := bQ (b := w.heap.size) hb5 rfl ob
     have kR := aZ HB4.out hc5
     clear hb5 hc5
     try simp only [eF] at rP
     go_wp2_with fail
     refine bodyPost_ret (v := .tuple #[(small (bW bs)).v, .int .i64 0]) ?_ rfl ⟨by unfold SK AP; rw [if_pos ⟨HL.out, HP.out⟩, if_pos HL.out, if_pos HP.out], ?_⟩
     · simp [results, Tryz.results65, go_sem, l10, kD, nN, rU, Ae]
     · exact (pl kR.out)
   · have hpd : decide (bW bs < Num.p) = false := decide_eq_false hp
     have HP := Lib.hid hp
     clear hp
     go_enter Tryz.func65, Tryz.ntmps65
     go_wp2_with fail
     refine (qH A c bs HY.out (by rw [HL.out]; decide) _ (HB.out.mono (Below.alloc (Below.refl _ _) (Nat.le_refl _) _) (Nat.le_refl _))).mono ?_
     rintro e y1 ⟨⟨A1, c1, rfl, hd1⟩, hb1⟩
     obtain ⟨x1, rfl, hc1, hz1, l10⟩ := bQ (b := w.heap.size) hb1 rfl ob
     have HB1 : Hid (Below w.heap.size w x1) := Below.trans (pl (Below.refl _ _)) (hc1.mono sz)
     clear hb1 hc1
     try simp only [eF] at hz1
     have HD1 := Lib.hid hd1
     clear hd1
     go_wp2_with fail
     refine (lV _).mono ?_
     rintro e y2 ⟨⟨A2, c2, rfl, hd2⟩, hb2⟩
     have Gn := Lib.hid (HD1.out.next hb2)
     obtain ⟨x2, rfl, hc2, hz2, kD⟩ := bQ (b := w.heap.size) hb2 rfl ob
     have HB2 := aZ HB1.out hc2
     clear hb2 hc2
     try simp only [eF] at hz2
     have HD2 := Lib.hid hd2
     clear hd2
     go_wp2_with fail
     refine (jU A1 A2 c1 c2 (bW bs) Num.p (Nat.le_trans (dK (k := 16) (Nat.lt_of_lt_of_eq (oD bs HY.out) (by rw [HL.out]; decide))) (by decide)) _ Gn.out HD2.out).mono ?_
     rintro e y3 ⟨rfl, hb3⟩
     obtain ⟨x3, rfl, hc3, hz3, nN⟩ := bQ (b := w.heap.size) hb3 rfl ob
     have HB3 := aZ HB2.out hc3
     clear hb3 hc3
     try simp only [eF] at hz3
     go_wp2_with fail
     refine bodyPost_ret (v := .tuple #[(⟨0, 0, 0, 0, 0⟩ : Fn).v, .int .i64 30]) ?_ rfl ⟨by unfold SK AP; rw [if_neg (fun h => HP.out h.2), if_pos HL.out, if_neg HP.out], ?_⟩
     · simp [results, Tryz.results65, go_sem, l10, kD, nN]
     · exact (pl HB3.out)
 · have hd : ((bs.length : Int) != 32) = true := by rw [bne_iff_ne]; omega
   have HL := Lib.hid hl
   clear hl
   go_enter Tryz.func65, Tryz.ntmps65
   go_wp2_with fail
   refine bodyPost_ret (v := .tuple #[(⟨0, 0, 0, 0, 0⟩ : Fn).v, .int .i64 1]) ?_ rfl ⟨by unfold SK AP; rw [if_neg (fun h => HL.out h.1), if_neg HL.out], ?_⟩
   · simp [results, Tryz.results65, go_sem]
   · exact (pl (Below.refl _ _))
end
end Go.Proofs.YtehfkbaendajbaaGreatDoor
