/-
  Shared, part 24: walks and plain laws; each theorem states its own conditions.
-/
import Derived.Test.YtehfkbaendajbaaGreatDoorB15
import Derived.Test.YtehfkbaendajbaaGreatDoorB16
import Derived.Test.YtehfkbaendajbaaGreatDoorB22
import Derived.Test.YtehfkbaendajbaaGreatDoorB23
import Derived.IntWalk
import Derived.Lib.Hide
import Derived.StillTailTactics
namespace Go.Proofs.YtehfkbaendajbaaGreatDoor
set_option linter.unusedSimpArgs false
set_option linter.unusedVariables false
set_option maxRecDepth 100000
set_option maxHeartbeats 8000000
section
open Go.RowKit
theorem aU (n : Nat) : fe (small n).val = fe n := by rw [jh, dA]
abbrev qK : Fn := ⟨1859910466990425, 932731440258426, 1072319116312658, 1815898335770999, 633789495995903⟩
theorem Ov : qK.lt 18446744073709551616 := by unfold Fn.lt; decide
theorem Ou : fe qK.val = Tf.d + Tf.d := by
 show fe qK.val = fe dN + fe dN
 rw [← iJ]
 exact oh (by decide +kernel)
theorem ab9 : (-1 : Fin Num.p) ≠ 0 := by
 rw [← iK, ← lG]
 exact nI.mpr (by decide)
def kE (w : World) : Prop := 5 < w.heap.size ∧ ∃ gt gf, w.heap[5]? = some (.cells #[.int .u64 1859910466990425, .int .u64 932731440258426, .int .u64 1072319116312658, .int .u64 1815898335770999, .int .u64 633789495995903] gt gf)
theorem kE.next {w w' : World} (h : kE w) (hb : Below w.heap.size w w') : kE w' := by
 obtain ⟨h1, gt, gf, h2⟩ := h
 exact ⟨Nat.lt_of_lt_of_le h1 hb.size, gt, gf, (hb.block 5 h1).trans h2⟩
def jl (p q : Pn) : Pn :=
 let s1 := small (dD p.y.val p.x.val)
 let s2 := small (dD q.y.val q.x.val)
 let a := small (s1.val * s2.val)
 let s3 := small (p.y.val + p.x.val)
 let s4 := small (q.y.val + q.x.val)
 let b := small (s3.val * s4.val)
 let s5 := small (p.t.val * q.t.val)
 let c := small (s5.val * qK.val)
 let d0 := small (p.z.val * q.z.val)
 let d := small (d0.val + d0.val)
 let ee := small (dD b.val a.val)
 let f := small (dD d.val c.val)
 let g := small (d.val + c.val)
 let h := small (b.val + a.val)
 let X := small (ee.val * f.val)
 let Y := small (g.val * h.val)
 let Z := small (f.val * g.val)
 let T := small (ee.val * h.val)
 ⟨X, Y, Z, T⟩
theorem ql (p q : Pn) (lp : p.lt) (lq : q.lt) (w : World) (hg : kE w) : Calls Tryz.prog 64 #[p.v, q.v] w fun e w' => e = .returned (jl p q).v ∧ Below w.heap.size w w' := by
 obtain ⟨s1, vG⟩ : ∃ zz, zz = small (dD p.y.val p.x.val) := ⟨_, rfl⟩
 have UH : s1.lt 18446744073709551616 := by rw [vG]; exact aF _
 obtain ⟨s2, JO⟩ : ∃ zz, zz = small (dD q.y.val q.x.val) := ⟨_, rfl⟩
 have afa : s2.lt 18446744073709551616 := by rw [JO]; exact aF _
 obtain ⟨a, e_a⟩ : ∃ zz, zz = small (s1.val * s2.val) := ⟨_, rfl⟩
 have l_a : a.lt 18446744073709551616 := by rw [e_a]; exact aF _
 obtain ⟨s3, JQ⟩ : ∃ zz, zz = small (p.y.val + p.x.val) := ⟨_, rfl⟩
 have afb : s3.lt 18446744073709551616 := by rw [JQ]; exact aF _
 obtain ⟨s4, JR⟩ : ∃ zz, zz = small (q.y.val + q.x.val) := ⟨_, rfl⟩
 have afc : s4.lt 18446744073709551616 := by rw [JR]; exact aF _
 obtain ⟨b, JF⟩ : ∃ zz, zz = small (s3.val * s4.val) := ⟨_, rfl⟩
 have l_b : b.lt 18446744073709551616 := by rw [JF]; exact aF _
 obtain ⟨s5, JU⟩ : ∃ zz, zz = small (p.t.val * q.t.val) := ⟨_, rfl⟩
 have afd : s5.lt 18446744073709551616 := by rw [JU]; exact aF _
 obtain ⟨c, JG⟩ : ∃ zz, zz = small (s5.val * qK.val) := ⟨_, rfl⟩
 have l_c : c.lt 18446744073709551616 := by rw [JG]; exact aF _
 obtain ⟨d0, JI⟩ : ∃ zz, zz = small (p.z.val * q.z.val) := ⟨_, rfl⟩
 have ab1 : d0.lt 18446744073709551616 := by rw [JI]; exact aF _
 obtain ⟨d, e_d⟩ : ∃ zz, zz = small (d0.val + d0.val) := ⟨_, rfl⟩
 have l_d : d.lt 18446744073709551616 := by rw [e_d]; exact aF _
 obtain ⟨ee, vF⟩ : ∃ zz, zz = small (dD b.val a.val) := ⟨_, rfl⟩
 have KC : ee.lt 18446744073709551616 := by rw [vF]; exact aF _
 obtain ⟨f, JJ⟩ : ∃ zz, zz = small (dD d.val c.val) := ⟨_, rfl⟩
 have l_f : f.lt 18446744073709551616 := by rw [JJ]; exact aF _
 obtain ⟨g, JK⟩ : ∃ zz, zz = small (d.val + c.val) := ⟨_, rfl⟩
 have ZU : g.lt 18446744073709551616 := by rw [JK]; exact aF _
 obtain ⟨h, JL⟩ : ∃ zz, zz = small (b.val + a.val) := ⟨_, rfl⟩
 have l_h : h.lt 18446744073709551616 := by rw [JL]; exact aF _
 obtain ⟨X, JC⟩ : ∃ zz, zz = small (ee.val * f.val) := ⟨_, rfl⟩
 have l_X : X.lt 18446744073709551616 := by rw [JC]; exact aF _
 obtain ⟨Y, JD⟩ : ∃ zz, zz = small (g.val * h.val) := ⟨_, rfl⟩
 have l_Y : Y.lt 18446744073709551616 := by rw [JD]; exact aF _
 obtain ⟨Z, JE⟩ : ∃ zz, zz = small (f.val * g.val) := ⟨_, rfl⟩
 have l_Z : Z.lt 18446744073709551616 := by rw [JE]; exact aF _
 obtain ⟨T, JB⟩ : ∃ zz, zz = small (ee.val * h.val) := ⟨_, rfl⟩
 have l_T : T.lt 18446744073709551616 := by rw [JB]; exact aF _
 have hr : jl p q = ⟨X, Y, Z, T⟩ := by
  subst JB JE JD JC JL JK JJ vF e_d JI JG JU JF JR JQ e_a JO vG
  rfl
 rw [hr]
 obtain ⟨hg1, gt, gf, hg2⟩ := hg
 exact JV gt gf p q s1 s2 s3 s4 s5 a b c d0 d ee f g h X Y Z T
  (Lib.hid (qI p.y p.x s1 _ lp.2.1 lp.1 vG rfl))
  (Lib.hid (qI q.y q.x s2 _ lq.2.1 lq.1 JO rfl))
  (Lib.hid (gX s1 s2 a _ UH afa e_a rfl))
  (Lib.hid (pJ p.y p.x s3 _ lp.2.1 lp.1 JQ rfl))
  (Lib.hid (pJ q.y q.x s4 _ lq.2.1 lq.1 JR rfl))
  (Lib.hid (gX s3 s4 b _ afb afc JF rfl))
  (Lib.hid (gX p.t q.t s5 _ lp.2.2.2 lq.2.2.2 JU rfl))
  (Lib.hid (gX s5 qK c _ afd Ov JG rfl))
  (Lib.hid (gX p.z q.z d0 _ lp.2.2.1 lq.2.2.1 JI rfl))
  (Lib.hid (pJ d0 d0 d _ ab1 ab1 e_d rfl))
  (Lib.hid (qI b a ee _ l_b l_a vF rfl))
  (Lib.hid (qI d c f _ l_d l_c JJ rfl))
  (Lib.hid (pJ d c g _ l_d l_c JK rfl))
  (Lib.hid (pJ b a h _ l_b l_a JL rfl))
  (Lib.hid (gX ee f X _ KC l_f JC rfl))
  (Lib.hid (gX g h Y _ ZU l_h JD rfl))
  (Lib.hid (gX f g Z _ l_f ZU JE rfl))
  (Lib.hid (gX ee h T _ KC l_h JB rfl)) w ⟨hg1, hg2⟩
theorem sG (p q : Pn) : (jl p q).lt := ⟨aF _, aF _, aF _, aF _⟩
theorem Aw (p q : Pn) (P Q : EP) (hp : p.of P) (hq : q.of Q) : (jl p q).of (P + Q) := by
 obtain ⟨lp, cp⟩ := hp
 obtain ⟨lq, cq⟩ := hq
 obtain ⟨s1, vG⟩ : ∃ zz, zz = small (dD p.y.val p.x.val) := ⟨_, rfl⟩
 have UH : s1.lt 18446744073709551616 := by rw [vG]; exact aF _
 have aa9 : fe s1.val = fe p.y.val - fe p.x.val := by rw [vG, aU, agJ]
 obtain ⟨s2, JO⟩ : ∃ zz, zz = small (dD q.y.val q.x.val) := ⟨_, rfl⟩
 have afa : s2.lt 18446744073709551616 := by rw [JO]; exact aF _
 have aik : fe s2.val = fe q.y.val - fe q.x.val := by rw [JO, aU, agJ]
 obtain ⟨a, e_a⟩ : ∃ zz, zz = small (s1.val * s2.val) := ⟨_, rfl⟩
 have l_a : a.lt 18446744073709551616 := by rw [e_a]; exact aF _
 have f_a : fe a.val = fe s1.val * fe s2.val := by rw [e_a, aU, aS]
 obtain ⟨s3, JQ⟩ : ∃ zz, zz = small (p.y.val + p.x.val) := ⟨_, rfl⟩
 have afb : s3.lt 18446744073709551616 := by rw [JQ]; exact aF _
 have ail : fe s3.val = fe p.y.val + fe p.x.val := by rw [JQ, aU, iJ]
 obtain ⟨s4, JR⟩ : ∃ zz, zz = small (q.y.val + q.x.val) := ⟨_, rfl⟩
 have afc : s4.lt 18446744073709551616 := by rw [JR]; exact aF _
 have ain : fe s4.val = fe q.y.val + fe q.x.val := by rw [JR, aU, iJ]
 obtain ⟨b, JF⟩ : ∃ zz, zz = small (s3.val * s4.val) := ⟨_, rfl⟩
 have l_b : b.lt 18446744073709551616 := by rw [JF]; exact aF _
 have f_b : fe b.val = fe s3.val * fe s4.val := by rw [JF, aU, aS]
 obtain ⟨s5, JU⟩ : ∃ zz, zz = small (p.t.val * q.t.val) := ⟨_, rfl⟩
 have afd : s5.lt 18446744073709551616 := by rw [JU]; exact aF _
 have aio : fe s5.val = fe p.t.val * fe q.t.val := by rw [JU, aU, aS]
 obtain ⟨c, JG⟩ : ∃ zz, zz = small (s5.val * qK.val) := ⟨_, rfl⟩
 have l_c : c.lt 18446744073709551616 := by rw [JG]; exact aF _
 have f_c : fe c.val = fe s5.val * fe qK.val := by rw [JG, aU, aS]
 obtain ⟨d0, JI⟩ : ∃ zz, zz = small (p.z.val * q.z.val) := ⟨_, rfl⟩
 have ab1 : d0.lt 18446744073709551616 := by rw [JI]; exact aF _
 have aic : fe d0.val = fe p.z.val * fe q.z.val := by rw [JI, aU, aS]
 obtain ⟨d, e_d⟩ : ∃ zz, zz = small (d0.val + d0.val) := ⟨_, rfl⟩
 have l_d : d.lt 18446744073709551616 := by rw [e_d]; exact aF _
 have f_d : fe d.val = fe d0.val + fe d0.val := by rw [e_d, aU, iJ]
 obtain ⟨ee, vF⟩ : ∃ zz, zz = small (dD b.val a.val) := ⟨_, rfl⟩
 have KC : ee.lt 18446744073709551616 := by rw [vF]; exact aF _
 have aa8 : fe ee.val = fe b.val - fe a.val := by rw [vF, aU, agJ]
 obtain ⟨f, JJ⟩ : ∃ zz, zz = small (dD d.val c.val) := ⟨_, rfl⟩
 have l_f : f.lt 18446744073709551616 := by rw [JJ]; exact aF _
 have f_f : fe f.val = fe d.val - fe c.val := by rw [JJ, aU, agJ]
 obtain ⟨g, JK⟩ : ∃ zz, zz = small (d.val + c.val) := ⟨_, rfl⟩
 have ZU : g.lt 18446744073709551616 := by rw [JK]; exact aF _
 have f_g : fe g.val = fe d.val + fe c.val := by rw [JK, aU, iJ]
 obtain ⟨h, JL⟩ : ∃ zz, zz = small (b.val + a.val) := ⟨_, rfl⟩
 have l_h : h.lt 18446744073709551616 := by rw [JL]; exact aF _
 have f_h : fe h.val = fe b.val + fe a.val := by rw [JL, aU, iJ]
 obtain ⟨X, JC⟩ : ∃ zz, zz = small (ee.val * f.val) := ⟨_, rfl⟩
 have l_X : X.lt 18446744073709551616 := by rw [JC]; exact aF _
 have f_X : fe X.val = fe ee.val * fe f.val := by rw [JC, aU, aS]
 obtain ⟨Y, JD⟩ : ∃ zz, zz = small (g.val * h.val) := ⟨_, rfl⟩
 have l_Y : Y.lt 18446744073709551616 := by rw [JD]; exact aF _
 have f_Y : fe Y.val = fe g.val * fe h.val := by rw [JD, aU, aS]
 obtain ⟨Z, JE⟩ : ∃ zz, zz = small (f.val * g.val) := ⟨_, rfl⟩
 have l_Z : Z.lt 18446744073709551616 := by rw [JE]; exact aF _
 have f_Z : fe Z.val = fe f.val * fe g.val := by rw [JE, aU, aS]
 obtain ⟨T, JB⟩ : ∃ zz, zz = small (ee.val * h.val) := ⟨_, rfl⟩
 have l_T : T.lt 18446744073709551616 := by rw [JB]; exact aF _
 have f_T : fe T.val = fe ee.val * fe h.val := by rw [JB, aU, aS]
 have hr : jl p q = ⟨X, Y, Z, T⟩ := by
  subst JB JE JD JC JL JK JJ vF e_d JI JG JU JF JR JQ e_a JO vG
  rfl
 rw [hr]
 refine ⟨⟨l_X, l_Y, l_Z, l_T⟩, ?_⟩
 have k := Sj P Q amO cp cq (k := fe qK.val) (a := fe a.val) (b := fe b.val) (c := fe c.val) (d := fe d.val) (e := fe ee.val) (f := fe f.val) (g := fe g.val) (h := fe h.val) Ou (by rw [f_a, aa9, aik]) (by rw [f_b, ail, ain]) (by rw [f_c, aio]) (by rw [f_d, aic]) aa8 f_f f_g f_h
 rw [← f_X, ← f_Y, ← f_Z, ← f_T] at k
 exact k
def mO (p : Pn) : Pn :=
 let a := small (p.x.val * p.x.val)
 let b := small (p.y.val * p.y.val)
 let c0 := small (p.z.val * p.z.val)
 let c := small (c0.val + c0.val)
 let s := small (a.val + b.val)
 let s0 := small (p.x.val + p.y.val)
 let s1 := small (s0.val * s0.val)
 let ee := small (dD s1.val s.val)
 let g := small (dD b.val a.val)
 let f := small (dD g.val c.val)
 let h := small (dD 0 s.val)
 let X := small (ee.val * f.val)
 let Y := small (g.val * h.val)
 let Z := small (f.val * g.val)
 let T := small (ee.val * h.val)
 ⟨X, Y, Z, T⟩
theorem AU (p : Pn) (lp : p.lt) (w : World) : Calls Tryz.prog 62 #[p.v] w fun e w' => e = .returned (mO p).v ∧ Below w.heap.size w w' := by
 obtain ⟨a, e_a⟩ : ∃ zz, zz = small (p.x.val * p.x.val) := ⟨_, rfl⟩
 have l_a : a.lt 18446744073709551616 := by rw [e_a]; exact aF _
 obtain ⟨b, JF⟩ : ∃ zz, zz = small (p.y.val * p.y.val) := ⟨_, rfl⟩
 have l_b : b.lt 18446744073709551616 := by rw [JF]; exact aF _
 obtain ⟨c0, JH⟩ : ∃ zz, zz = small (p.z.val * p.z.val) := ⟨_, rfl⟩
 have abZ : c0.lt 18446744073709551616 := by rw [JH]; exact aF _
 obtain ⟨c, JG⟩ : ∃ zz, zz = small (c0.val + c0.val) := ⟨_, rfl⟩
 have l_c : c.lt 18446744073709551616 := by rw [JG]; exact aF _
 obtain ⟨s, e_s⟩ : ∃ zz, zz = small (a.val + b.val) := ⟨_, rfl⟩
 have l_s : s.lt 18446744073709551616 := by rw [e_s]; exact aF _
 obtain ⟨s0, JM⟩ : ∃ zz, zz = small (p.x.val + p.y.val) := ⟨_, rfl⟩
 have ae9 : s0.lt 18446744073709551616 := by rw [JM]; exact aF _
 obtain ⟨s1, vG⟩ : ∃ zz, zz = small (s0.val * s0.val) := ⟨_, rfl⟩
 have UH : s1.lt 18446744073709551616 := by rw [vG]; exact aF _
 obtain ⟨ee, vF⟩ : ∃ zz, zz = small (dD s1.val s.val) := ⟨_, rfl⟩
 have KC : ee.lt 18446744073709551616 := by rw [vF]; exact aF _
 obtain ⟨g, JK⟩ : ∃ zz, zz = small (dD b.val a.val) := ⟨_, rfl⟩
 have ZU : g.lt 18446744073709551616 := by rw [JK]; exact aF _
 obtain ⟨f, JJ⟩ : ∃ zz, zz = small (dD g.val c.val) := ⟨_, rfl⟩
 have l_f : f.lt 18446744073709551616 := by rw [JJ]; exact aF _
 obtain ⟨h, JL⟩ : ∃ zz, zz = small (dD 0 s.val) := ⟨_, rfl⟩
 have l_h : h.lt 18446744073709551616 := by rw [JL]; exact aF _
 obtain ⟨X, JC⟩ : ∃ zz, zz = small (ee.val * f.val) := ⟨_, rfl⟩
 have l_X : X.lt 18446744073709551616 := by rw [JC]; exact aF _
 obtain ⟨Y, JD⟩ : ∃ zz, zz = small (g.val * h.val) := ⟨_, rfl⟩
 have l_Y : Y.lt 18446744073709551616 := by rw [JD]; exact aF _
 obtain ⟨Z, JE⟩ : ∃ zz, zz = small (f.val * g.val) := ⟨_, rfl⟩
 have l_Z : Z.lt 18446744073709551616 := by rw [JE]; exact aF _
 obtain ⟨T, JB⟩ : ∃ zz, zz = small (ee.val * h.val) := ⟨_, rfl⟩
 have l_T : T.lt 18446744073709551616 := by rw [JB]; exact aF _
 have hr : mO p = ⟨X, Y, Z, T⟩ := by
  subst JB JE JD JC JL JJ JK vF vG JM e_s JG JH JF e_a
  rfl
 rw [hr]
 exact JW p a b c0 c s s0 s1 ee f g h X Y Z T
  (Lib.hid (jR p.x a _ lp.1 e_a rfl))
  (Lib.hid (jR p.y b _ lp.2.1 JF rfl))
  (Lib.hid (jR p.z c0 _ lp.2.2.1 JH rfl))
  (Lib.hid (pJ c0 c0 c _ abZ abZ JG rfl))
  (Lib.hid (pJ a b s _ l_a l_b e_s rfl))
  (Lib.hid (pJ p.x p.y s0 _ lp.1 lp.2.1 JM rfl))
  (Lib.hid (jR s0 s1 _ ae9 vG rfl))
  (Lib.hid (qI s1 s ee _ UH l_s vF rfl))
  (Lib.hid (qI b a g _ l_b l_a JK rfl))
  (Lib.hid (qI g c f _ ZU l_c JJ rfl))
  (Lib.hid (EO s h _ l_s JL rfl))
  (Lib.hid (gX ee f X _ KC l_f JC rfl))
  (Lib.hid (gX g h Y _ ZU l_h JD rfl))
  (Lib.hid (gX f g Z _ l_f ZU JE rfl))
  (Lib.hid (gX ee h T _ KC l_h JB rfl)) w
theorem GZ (p : Pn) : (mO p).lt := ⟨aF _, aF _, aF _, aF _⟩
theorem G5 (p : Pn) (P : EP) (hp : p.of P) : (mO p).of (P + P) := by
 obtain ⟨lp, cp⟩ := hp
 obtain ⟨a, e_a⟩ : ∃ zz, zz = small (p.x.val * p.x.val) := ⟨_, rfl⟩
 have l_a : a.lt 18446744073709551616 := by rw [e_a]; exact aF _
 have f_a : fe a.val = fe p.x.val * fe p.x.val := by rw [e_a, aU, aS]
 obtain ⟨b, JF⟩ : ∃ zz, zz = small (p.y.val * p.y.val) := ⟨_, rfl⟩
 have l_b : b.lt 18446744073709551616 := by rw [JF]; exact aF _
 have f_b : fe b.val = fe p.y.val * fe p.y.val := by rw [JF, aU, aS]
 obtain ⟨c0, JH⟩ : ∃ zz, zz = small (p.z.val * p.z.val) := ⟨_, rfl⟩
 have abZ : c0.lt 18446744073709551616 := by rw [JH]; exact aF _
 have aib : fe c0.val = fe p.z.val * fe p.z.val := by rw [JH, aU, aS]
 obtain ⟨c, JG⟩ : ∃ zz, zz = small (c0.val + c0.val) := ⟨_, rfl⟩
 have l_c : c.lt 18446744073709551616 := by rw [JG]; exact aF _
 have f_c : fe c.val = fe c0.val + fe c0.val := by rw [JG, aU, iJ]
 obtain ⟨s, e_s⟩ : ∃ zz, zz = small (a.val + b.val) := ⟨_, rfl⟩
 have l_s : s.lt 18446744073709551616 := by rw [e_s]; exact aF _
 have f_s : fe s.val = fe a.val + fe b.val := by rw [e_s, aU, iJ]
 obtain ⟨s0, JM⟩ : ∃ zz, zz = small (p.x.val + p.y.val) := ⟨_, rfl⟩
 have ae9 : s0.lt 18446744073709551616 := by rw [JM]; exact aF _
 have aij : fe s0.val = fe p.x.val + fe p.y.val := by rw [JM, aU, iJ]
 obtain ⟨s1, vG⟩ : ∃ zz, zz = small (s0.val * s0.val) := ⟨_, rfl⟩
 have UH : s1.lt 18446744073709551616 := by rw [vG]; exact aF _
 have aa9 : fe s1.val = fe s0.val * fe s0.val := by rw [vG, aU, aS]
 obtain ⟨ee, vF⟩ : ∃ zz, zz = small (dD s1.val s.val) := ⟨_, rfl⟩
 have KC : ee.lt 18446744073709551616 := by rw [vF]; exact aF _
 have aa8 : fe ee.val = fe s1.val - fe s.val := by rw [vF, aU, agJ]
 obtain ⟨g, JK⟩ : ∃ zz, zz = small (dD b.val a.val) := ⟨_, rfl⟩
 have ZU : g.lt 18446744073709551616 := by rw [JK]; exact aF _
 have f_g : fe g.val = fe b.val - fe a.val := by rw [JK, aU, agJ]
 obtain ⟨f, JJ⟩ : ∃ zz, zz = small (dD g.val c.val) := ⟨_, rfl⟩
 have l_f : f.lt 18446744073709551616 := by rw [JJ]; exact aF _
 have f_f : fe f.val = fe g.val - fe c.val := by rw [JJ, aU, agJ]
 obtain ⟨h, JL⟩ : ∃ zz, zz = small (dD 0 s.val) := ⟨_, rfl⟩
 have l_h : h.lt 18446744073709551616 := by rw [JL]; exact aF _
 have f_h : fe h.val = -fe s.val := by rw [JL, aU, lG]
 obtain ⟨X, JC⟩ : ∃ zz, zz = small (ee.val * f.val) := ⟨_, rfl⟩
 have l_X : X.lt 18446744073709551616 := by rw [JC]; exact aF _
 have f_X : fe X.val = fe ee.val * fe f.val := by rw [JC, aU, aS]
 obtain ⟨Y, JD⟩ : ∃ zz, zz = small (g.val * h.val) := ⟨_, rfl⟩
 have l_Y : Y.lt 18446744073709551616 := by rw [JD]; exact aF _
 have f_Y : fe Y.val = fe g.val * fe h.val := by rw [JD, aU, aS]
 obtain ⟨Z, JE⟩ : ∃ zz, zz = small (f.val * g.val) := ⟨_, rfl⟩
 have l_Z : Z.lt 18446744073709551616 := by rw [JE]; exact aF _
 have f_Z : fe Z.val = fe f.val * fe g.val := by rw [JE, aU, aS]
 obtain ⟨T, JB⟩ : ∃ zz, zz = small (ee.val * h.val) := ⟨_, rfl⟩
 have l_T : T.lt 18446744073709551616 := by rw [JB]; exact aF _
 have f_T : fe T.val = fe ee.val * fe h.val := by rw [JB, aU, aS]
 have hr : mO p = ⟨X, Y, Z, T⟩ := by
  subst JB JE JD JC JL JJ JK vF vG JM e_s JG JH JF e_a
  rfl
 rw [hr]
 refine ⟨⟨l_X, l_Y, l_Z, l_T⟩, ?_⟩
 have k := Sl P cp ab9 (a := fe a.val) (b := fe b.val) (c := fe c.val) (s := fe s.val) (e := fe ee.val) (f := fe f.val) (g := fe g.val) (h := fe h.val) f_a f_b (by rw [f_c, aib]) f_s (by rw [aa8, aa9, aij]) f_g f_f f_h
 rw [← f_X, ← f_Y, ← f_Z, ← f_T] at k
 exact k
end
section
open Go.RowKit Go.Proofs.YtehfkbaendajbaaGreatDoorW.PrintLast
theorem aao (w : World) :
 Calls Tryz.prog 15 #[] w fun e w' => e = .returned (Pn.mk ⟨0, 0, 0, 0, 0⟩ ⟨1, 0, 0, 0, 0⟩ ⟨1, 0, 0, 0, 0⟩ ⟨0, 0, 0, 0, 0⟩).v ∧ Below w.heap.size w w' := by
 go_enter Tryz.func15, Tryz.ntmps15
 iterate 21 (go_step)
 refine gB 38 _ _ rfl w.heap.size #[.int .u64 0, .int .u64 0, .int .u64 0, .int .u64 0, .int .u64 0, .int .u64 1, .int .u64 0, .int .u64 0, .int .u64 0, .int .u64 0, .int .u64 1, .int .u64 0, .int .u64 0, .int .u64 0, .int .u64 0, .int .u64 0, .int .u64 0, .int .u64 0, .int .u64 0, .int .u64 0] rfl rfl 38 _ (heap_alloc_last w _) (by kernel_rfl) rfl (by kernel_rfl) ?_
 go_wp2_with fail
 refine bodyPost_ret (v := (Pn.mk ⟨0, 0, 0, 0, 0⟩ ⟨1, 0, 0, 0, 0⟩ ⟨1, 0, 0, 0, 0⟩ ⟨0, 0, 0, 0, 0⟩).v) (fA rfl rfl (fD (Pn.mk ⟨0, 0, 0, 0, 0⟩ ⟨1, 0, 0, 0, 0⟩ ⟨1, 0, 0, 0, 0⟩ ⟨0, 0, 0, 0, 0⟩) (eY (by simp only [World.size_alloc]; omega)))) rfl ⟨rfl, (pl (Below.refl _ _))⟩
theorem Hy (gt0 gt1 gt2 : TypeId) (gf0 gf1 gf2 : Nat × Nat) (w : World) (hg : 2 < w.heap.size ∧ w.heap[0]? = some (.cells #[.int .u64 1738742601995546, .int .u64 1146398526822698, .int .u64 2070867633025821, .int .u64 562264141797630, .int .u64 587772402128613] gt0 gf0) ∧ w.heap[1]? = some (.cells #[.int .u64 1801439850948184, .int .u64 1351079888211148, .int .u64 450359962737049, .int .u64 900719925474099, .int .u64 1801439850948198] gt1 gf1) ∧ w.heap[2]? = some (.cells #[.int .u64 1841354044333475, .int .u64 16398895984059, .int .u64 755974180946558, .int .u64 900171276175154, .int .u64 1821297809914039] gt2 gf2)) :
 Calls Tryz.prog 14 #[] w fun e w' => e = .returned (Pn.mk ⟨1738742601995546, 1146398526822698, 2070867633025821, 562264141797630, 587772402128613⟩ ⟨1801439850948184, 1351079888211148, 450359962737049, 900719925474099, 1801439850948198⟩ ⟨1, 0, 0, 0, 0⟩ ⟨1841354044333475, 16398895984059, 755974180946558, 900171276175154, 1821297809914039⟩).v ∧ Below w.heap.size w w' := by
 obtain ⟨hs, h1, h2, h3⟩ := hg
 obtain ⟨x, hx⟩ : ∃ x : World, x.heap.size = w.heap.size ∧ w = ((x.pin 0 (.cells #[.int .u64 1738742601995546, .int .u64 1146398526822698, .int .u64 2070867633025821, .int .u64 562264141797630, .int .u64 587772402128613] gt0 gf0)).pin 1 (.cells #[.int .u64 1801439850948184, .int .u64 1351079888211148, .int .u64 450359962737049, .int .u64 900719925474099, .int .u64 1801439850948198] gt1 gf1)).pin 2 (.cells #[.int .u64 1841354044333475, .int .u64 16398895984059, .int .u64 755974180946558, .int .u64 900171276175154, .int .u64 1821297809914039] gt2 gf2) := ⟨w, rfl, by rw [aN h1, aN h2, aN h3]⟩
 obtain ⟨hx, rfl⟩ := hx
 clear h1 h2 h3
 simp only [aA] at hs hx
 have hs1 : 0 < x.heap.size := by omega
 have hs2 : 1 < x.heap.size := by omega
 clear hx
 go_enter Tryz.func14, Tryz.ntmps14
 iterate 27 (go_step)
 refine gB 38 _ _ rfl x.heap.size #[.int .u64 1738742601995546, .int .u64 1146398526822698, .int .u64 2070867633025821, .int .u64 562264141797630, .int .u64 587772402128613, .int .u64 1801439850948184, .int .u64 1351079888211148, .int .u64 450359962737049, .int .u64 900719925474099, .int .u64 1801439850948198, .int .u64 1, .int .u64 0, .int .u64 0, .int .u64 0, .int .u64 0, .int .u64 1841354044333475, .int .u64 16398895984059, .int .u64 755974180946558, .int .u64 900171276175154, .int .u64 1821297809914039] rfl rfl 38 bP ob (by kernel_rfl) rfl (by kernel_rfl) ?_
 go_wp2_with fail
 refine bodyPost_ret (v := (Pn.mk ⟨1738742601995546, 1146398526822698, 2070867633025821, 562264141797630, 587772402128613⟩ ⟨1801439850948184, 1351079888211148, 450359962737049, 900719925474099, 1801439850948198⟩ ⟨1, 0, 0, 0, 0⟩ ⟨1841354044333475, 16398895984059, 755974180946558, 900171276175154, 1821297809914039⟩).v) (fA rfl rfl (fD (Pn.mk ⟨1738742601995546, 1146398526822698, 2070867633025821, 562264141797630, 587772402128613⟩ ⟨1801439850948184, 1351079888211148, 450359962737049, 900719925474099, 1801439850948198⟩ ⟨1, 0, 0, 0, 0⟩ ⟨1841354044333475, 16398895984059, 755974180946558, 900171276175154, 1821297809914039⟩) ?_)) rfl ⟨rfl, ?_⟩
 · refine eY ?_
   simp only [World.size_alloc, aA]
   omega
 · refine jS ?_ ?_
   · exact Below.alloc (Below.refl _ _) (by simp only [aA]; omega) _
   · simp only [aA]; omega
end
section
open Go.RowKit Go.Proofs.YtehfkbaendajbaaGreatDoorW.PrintLast
def Pn.cs (p : Pn) : List Value := p.cL
theorem Pn.akj (p : Pn) : p.v = .agg p.cs.toArray := rfl
theorem yE (p : Pn) : p.cs.length = 20 := rfl
def flat (n : Nat) (f : Nat → Pn) : List Value := (List.range n).flatMap fun i => (f i).cs
theorem uo (n : Nat) (f : Nat → Pn) : flat (n + 1) f = flat n f ++ (f n).cs := by
 unfold flat
 rw [List.range_succ, List.flatMap_append]
 simp
theorem dL (f : Nat → Pn) : ∀ n, (flat n f).length = 20 * n
 | 0 => rfl
 | n + 1 => by rw [uo, List.length_append, dL f n, yE]; omega
theorem flat_get (f : Nat → Pn) : ∀ (n i j : Nat), i < n → j < 20 → (flat n f)[20 * i + j]? = (f i).cs[j]?
 | 0, i, j, h, _ => absurd h (Nat.not_lt_zero _)
 | n + 1, i, j, h, hj => by
  rw [uo]
  by_cases hi : i < n
  · rw [List.getElem?_append_left (by rw [dL]; omega)]
    exact flat_get f n i j hi hj
  · obtain rfl : i = n := by omega
    rw [List.getElem?_append_right (by rw [dL]; omega), dL, Nat.add_sub_cancel_left]
def xX (f : Nat → Pn) (i : Nat) (p : Pn) : Nat → Pn := fun j => if j = i then p else f j
theorem yY (f : Nat → Pn) (i : Nat) (p : Pn) : xX f i p i = p := if_pos rfl
theorem F8 {f : Nat → Pn} {i j : Nat} {p : Pn} (h : j ≠ i) : xX f i p j = f j := if_neg h
theorem TA (n i : Nat) (f : Nat → Pn) (p : Pn) (h : i < n) : spl (flat n f).toArray (20 * i) p.cs = (flat n (xX f i p)).toArray := by
 apply Array.ext_getElem?
 intro k
 rw [xU _ _ _ _ (by rw [List.size_toArray, dL, yE]; omega)]
 simp only [List.getElem?_toArray]
 by_cases hk : k < 20 * n
 · have e : k = 20 * (k / 20) + k % 20 := (Nat.div_add_mod k 20).symm
   have hq : k / 20 < n := by omega
   have hr : k % 20 < 20 := Nat.mod_lt _ (by decide)
   by_cases hi : k / 20 = i
   · rw [if_pos (by rw [yE]; omega)]
     rw [show (flat n (xX f i p))[k]? = (flat n (xX f i p))[20 * (k / 20) + k % 20]? by rw [← e], flat_get _ _ _ _ hq hr, hi, yY]
     congr 1
     omega
   · rw [if_neg (by rw [yE]; omega)]
     rw [show (flat n (xX f i p))[k]? = (flat n (xX f i p))[20 * (k / 20) + k % 20]? by rw [← e], show (flat n f)[k]? = (flat n f)[20 * (k / 20) + k % 20]? by rw [← e], flat_get _ _ _ _ hq hr, flat_get _ _ _ _ hq hr, F8 hi]
 · rw [if_neg (by rw [yE]; omega), List.getElem?_eq_none (by rw [dL]; omega), List.getElem?_eq_none (by rw [dL]; omega)]
theorem J4 {w : World} {b n i : Nat} {f : Nat → Pn} {t : TypeId} (h : w.heap[b]? = some (.cells (flat n f).toArray t)) (hi : i < n) : w.rangeAt b (20 * i) (f i).cs := fun j v hv => by
 have hj : j < 20 := (List.getElem?_eq_some_iff.mp hv).1
 rw [cell_of_row w b (20 * i + j) _ t (0, 0) h, List.getElem?_toArray, flat_get f n i j hi hj]
 exact hv
theorem Sr (p : Pn) : ∀ v ∈ p.cs, v.oneCell' = true := by
 intro v hv
 have := Array.all_eq_true_iff_forall_mem.1 (eH p) v (by simpa [Pn.cs] using hv)
 exact this
theorem H9 (f : Nat → Pn) (n : Nat) : ∀ v ∈ flat n f, v.oneCell' = true := by
 intro v hv
 obtain ⟨i, _, h⟩ := List.mem_flatMap.mp hv
 exact Sr _ v h
theorem anh (n m : Nat) (f g : Nat → Pn) : flat n f ++ flat m g = flat (n + m) (fun i => if i < n then f i else g (i - n)) := by
 induction m with
 | zero =>
  rw [show flat 0 g = [] from rfl, List.append_nil]
  unfold flat
  rw [List.flatMap_def, List.flatMap_def]
  congr 1
  refine List.map_congr_left fun i hi => ?_
  show (f i).cs = (if i < n then f i else g (i - n)).cs
  rw [if_pos (List.mem_range.mp hi)]
 | succ m ih =>
  rw [uo, ← List.append_assoc, ih, ← Nat.add_assoc, uo]
  congr 1
  show (g m).cs = (if n + m < n then f (n + m) else g (n + m - n)).cs
  rw [if_neg (by omega), Nat.add_sub_cancel_left]
section
variable {P : Program} {ops : Array Oper} {rest : List Oper} {o : Oper} {a : Act} {w : World} {Q : Exit → Act → World → Prop} {K : Act → World → Prop}
theorem aoR : (Tryz.prog.underlying 38).any TypeDesc.isRow = true := by kernel_rfl
theorem aot : (Tryz.prog.info? 38).map (·.size) = some 20 := by kernel_rfl
theorem Ja (b n i : Nat) (f : Nat → Pn) (t : TypeId) (h : w.heap[b]? = some (.cells (flat n f).toArray t)) (hi : i < n) : (loadVar 38 ⟨b, 20 * i, none⟩).run Tryz.prog w = .ok (f i).v w := by
 have hu := aoR
 cases hq : Tryz.prog.underlying 38 with
 | none => rw [hq] at hu; cases hu
 | some d => exact run_loadVar_mid w b (20 * i) 38 (f i).cs d (J4 h hi) hq (by rw [hq] at hu; exact hu) aot
theorem jT (x : Operand) (ho : o.op = .load 38 x) (b n i off : Nat) (f : Nat → Pn) (t : TypeId) (hx : a.eval x = .pointer (some ⟨b, off, none⟩)) (hoff : off = 20 * i) (h : w.heap[b]? = some (.cells (flat n f).toArray t)) (hi : i < n) : (execOp a.eval o).run Tryz.prog w = .ok (.value (f i).v) w := by
 subst hoff
 unfold execOp
 simp only [ho, hx, Instr.loadAt, Instr.sureAddr, Sem.run_bind, Sem.run_pure, Result.andThen_ok, Ja b n i f t h hi]
theorem CZ (x : Operand) (ho : o.op = .load 38 x) (hgd : o.guard = none) (b n i off : Nat) (f : Nat → Pn) (t : TypeId) (hx : a.eval x = .pointer (some ⟨b, off, none⟩)) (hoff : off = 20 * i) (h : w.heap[b]? = some (.cells (flat n f).toArray t)) (hi : i < n) (hK : wpList Tryz.prog ops Q rest (a.put o.dst (f i).v) w) : wpList Tryz.prog ops Q (o :: rest) a w :=
 wpList_plain hgd fun _ hk => by
  unfold Oper.wp
  rw [jT x ho b n i off f t hx hoff h hi]
  exact hk _ _ hK
theorem FP (b n i : Nat) (f : Nat → Pn) (p : Pn) (t : TypeId) (h : w.heap[b]? = some (.cells (flat n f).toArray t)) (hi : i < n) : (storeVar 38 ⟨b, 20 * i, none⟩ p.v).run Tryz.prog w = .ok () (w.pin b (.cells (flat n (xX f i p)).toArray t)) := by
 rw [Pn.akj]
 rw [run_storeVar_mid w b (20 * i) 38 p.cs.toArray (CG h (by rw [List.size_toArray, List.size_toArray, dL, yE]; omega)) aot (all_oneCell_toArray (Sr p))]
 conv => lhs; rw [← aN h]
 rw [nP, ← TA n i f p hi]
theorem zC (x y : Operand) (ho : o.op = .store 38 x y) (b n i off : Nat) (f : Nat → Pn) (p : Pn) (t : TypeId) (hx : a.eval x = .pointer (some ⟨b, off, none⟩)) (hy : a.eval y = p.v) (hoff : off = 20 * i) (h : w.heap[b]? = some (.cells (flat n f).toArray t)) (hi : i < n) (hK : K (a.put o.dst undef) (w.pin b (.cells (flat n (xX f i p)).toArray t))) : o.wp Tryz.prog a w K Q := by
 subst hoff
 unfold Oper.wp execOp
 simp only [ho, hx, hy, Instr.storeAt, Instr.sureAddr, Sem.run_bind, Sem.run_pure, Result.andThen_ok, FP b n i f p t h hi]
 exact hK
theorem qZ (x y : Operand) (ho : o.op = .store 38 x y) (hgd : o.guard = none) (b n i off : Nat) (f : Nat → Pn) (p : Pn) (t : TypeId) (hx : a.eval x = .pointer (some ⟨b, off, none⟩)) (hy : a.eval y = p.v) (hoff : off = 20 * i) (h : w.heap[b]? = some (.cells (flat n f).toArray t)) (hi : i < n) (hK : wpList Tryz.prog ops Q rest (a.put o.dst undef) (w.pin b (.cells (flat n (xX f i p)).toArray t))) : wpList Tryz.prog ops Q (o :: rest) a w :=
 wpList_plain hgd fun _ hk => zC x y ho b n i off f p t hx hy hoff h hi (hk _ _ hK)
abbrev dh : Pn := ⟨⟨0, 0, 0, 0, 0⟩, ⟨0, 0, 0, 0, 0⟩, ⟨0, 0, 0, 0, 0⟩, ⟨0, 0, 0, 0, 0⟩⟩
abbrev iR : Pn := ⟨⟨0, 0, 0, 0, 0⟩, ⟨1, 0, 0, 0, 0⟩, ⟨1, 0, 0, 0, 0⟩, ⟨0, 0, 0, 0, 0⟩⟩
theorem AZ (l : List Value) : (l.toArray.extract 0 (0 + l.length)).toList = l := by simp
theorem Dy (ty : TypeId) (n b : Nat) (f : Nat → Pn) (t : TypeId) (hr : (P.underlying ty).any TypeDesc.isRow = true) (hs : (P.info? ty).map (·.size) = some (20 * n)) (h : w.heap[b]? = some (.cells (flat n f).toArray t)) : (loadVar ty ⟨b, 0, none⟩).run P w = .ok (.agg (flat n f).toArray) w :=
 qP b 0 ty (flat n f) _ t h (AZ _) hr (by rw [dL]; exact hs)
theorem yZ (ty : TypeId) (n : Nat) (x : Operand) (ho : o.op = .load ty x) (hgd : o.guard = none) (b : Nat) (f : Nat → Pn) (t : TypeId) (hx : a.eval x = .pointer (some ⟨b, 0, none⟩)) (hr : (P.underlying ty).any TypeDesc.isRow = true) (hs : (P.info? ty).map (·.size) = some (20 * n)) (h : w.heap[b]? = some (.cells (flat n f).toArray t)) (hK : wpList P ops Q rest (a.put o.dst (.agg (flat n f).toArray)) w) : wpList P ops Q (o :: rest) a w :=
 eu ty x ho hgd b 0 hx (flat n f) _ t h (AZ _) hr (by rw [dL]; exact hs) hK
theorem DK (ty : TypeId) (n : Nat) (x y : Operand) (ho : o.op = .store ty x y) (b : Nat) (f : Nat → Pn) (g : Nat → Pn) (t : TypeId) (hx : a.eval x = .pointer (some ⟨b, 0, none⟩)) (hy : a.eval y = .agg (flat n f).toArray) (hs : (P.info? ty).map (·.size) = some (20 * n)) (h : w.heap[b]? = some (.cells (flat n g).toArray t)) (hK : K (a.put o.dst undef) (w.pin b (.cells (flat n f).toArray t))) : o.wp P a w K Q :=
 gB ty x y ho b _ hx hy t _ h (by rw [List.size_toArray, dL]; exact hs) (by rw [List.size_toArray, List.size_toArray, dL, dL]) (all_oneCell_toArray (H9 f n)) hK
theorem yg (ty : TypeId) (n : Nat) (x y : Operand) (ho : o.op = .store ty x y) (hgd : o.guard = none) (b : Nat) (f : Nat → Pn) (g : Nat → Pn) (t : TypeId) (hx : a.eval x = .pointer (some ⟨b, 0, none⟩)) (hy : a.eval y = .agg (flat n f).toArray) (hs : (P.info? ty).map (·.size) = some (20 * n)) (h : w.heap[b]? = some (.cells (flat n g).toArray t)) (hK : wpList P ops Q rest (a.put o.dst undef) (w.pin b (.cells (flat n f).toArray t))) : wpList P ops Q (o :: rest) a w :=
 wpList_plain hgd fun _ hk => DK ty n x y ho b f g t hx hy hs h (hk _ _ hK)
theorem Lj (w : World) : (Instr.alloc 85 true (.tuple #[])).run Tryz.prog w = .ok (.pointer (some ⟨w.heap.size, 0, none⟩)) (w.alloc (.cells (flat 16 fun _ => dh).toArray 85)) := by kernel_rfl
theorem DF (hg : o.guard = none) (hop : o.op = .alloc 85) (h : wpList Tryz.prog ops Q rest (a.put o.dst (.pointer (some ⟨w.heap.size, 0, none⟩))) (w.alloc (.cells (flat 16 fun _ => dh).toArray 85))) : wpList Tryz.prog ops Q (o :: rest) a w := by
 refine wpList_plain hg fun K hK => ?_
 unfold Oper.wp execOp
 simp only [hop, Sem.run_bind, Lj, Result.andThen_ok]
 exact hK _ _ h
end
end
section
open Go.RowKit Go.Proofs.YtehfkbaendajbaaGreatDoorW.PrintLast
def bG (p : Pn) : Nat → Nat → Pn
 | 0 => fun _ => dh
 | k + 1 => xX (bG p k) k (if k = 0 then iR else if k % 2 = 0 then mO (bG p k (k / 2)) else jl (bG p k (k - 1)) p)
theorem Wu (p : Pn) : bG p 1 = xX (fun _ => dh) 0 iR := rfl
theorem QB (p : Pn) {i : Nat} (h : 1 ≤ i) (h2 : i % 2 = 0) : bG p (i + 1) = xX (bG p i) i (mO (bG p i (i / 2))) := by
 rw [bG, if_neg (by omega), if_pos h2]
theorem Ws (p : Pn) {i : Nat} (h : 1 ≤ i) (h2 : ¬ i % 2 = 0) : bG p (i + 1) = xX (bG p i) i (jl (bG p i (i - 1)) p) := by
 rw [bG, if_neg (by omega), if_neg h2]
theorem U9 : dh.lt := by unfold Pn.lt Fn.lt; decide
theorem uK : iR.lt := by unfold Pn.lt Fn.lt; decide
theorem qR (p : Pn) : ∀ k j, (bG p k j).lt
 | 0, _ => U9
 | k + 1, j => by
  rw [bG]
  by_cases h : j = k
  · rw [h, yY]
    split
    · exact uK
    · split
      · exact GZ _
      · exact sG _ _
  · rw [F8 h]
    exact qR p k j
theorem pI (p : Pn) (lp : p.lt) (w : World) (hg : kE w) :
 Calls Tryz.prog 61 #[p.v] w fun e w' => e = .returned (.agg (flat 16 (bG p 16)).toArray) ∧ Below w.heap.size w w' := by
 go_enter Tryz.func61, Tryz.ntmps61
 go_wp2_with (with_reducible refine DF rfl rfl ?_)
 refine (aao _).mono ?_
 rintro e y1 ⟨rfl, hb1⟩
 obtain ⟨x1, rfl, hc1, hz1, l10, nG, l12⟩ := bZ (b0 := w.heap.size) (b1 := w.heap.size + 1) (b2 := w.heap.size + 2) hb1 rfl ob ob ob
 have HB1 : Hid (Below w.heap.size w x1) := Below.trans (pl (Below.refl _ _)) (hc1.mono sz)
 clear hb1 hc1
 try simp only [eF] at hz1
 dsimp only
 iterate 4 (go_step)
 refine qZ (.tmp 6) (.tmp 5) rfl rfl (w.heap.size + 2) 16 0 0 (fun _ => dh) iR 85 rfl rfl rfl ob (by decide) ?_
 simp only [Act.put, List.setIfInBounds_toArray, List.set_cons_zero, List.set_cons_succ]
 refine wpList_nil ?_
 go_wp2_with fail
 have kS := Lib.hid hg
 have pX := Lib.hid lp
 clear hg lp
 go_loopw [4] (fun iv wr => ∃ (i : Nat) (x : World), iv = .int .i64 (i : Int) ∧ wr = ((x.pin w.heap.size (.cells p.cA 38)).pin (w.heap.size + 1) (.cells (flat 16 fun _ => dh).toArray 85)).pin (w.heap.size + 2) (.cells (flat 16 (bG p i)).toArray 85) ∧ w.heap.size < x.heap.size ∧ w.heap.size + 1 < x.heap.size ∧ w.heap.size + 2 < x.heap.size ∧ Hid (Below w.heap.size w x ∧ 1 ≤ i ∧ i ≤ 16)) (fun iv _ => (16 - intOf iv).toNat)
 case atStart => exact ⟨1, _, rfl, jf ob ob (by rw [Wu]; exact ob), sz, sz, sz, pl HB1.out, by decide, by decide⟩
 case round =>
  obtain ⟨i, x, rfl, rfl, q0, q1, q2, H⟩ := hrel
  have HB2 : Hid (Below w.heap.size w x) := Lib.hid H.out.1
  by_cases hlt : i < 16
  · have h1 : 1 ≤ i := H.out.2.1
    have e3 : (i : Int).tmod 2 = ((i % 2 : Nat) : Int) := by rw [Int.tmod_eq_emod_of_nonneg (by omega)]; omega
    have e1 : IntKind.i64.wrap ((i : Int) / 2) = ((i / 2 : Nat) : Int) := (IntWalk.i64_in _ (by omega)).trans (by omega)
    by_cases hp : i % 2 = 0
    · go_wp2_with (refine CZ (.tmp 17) rfl rfl (w.heap.size + 1 + 1) 16 (i / 2) _ (bG p i) 85 rfl (Nat.mul_comm _ _) ob (by omega) ?_)
      refine (AU _ (qR _ _ _) _).mono ?_
      rintro e y3 ⟨rfl, hb3⟩
      obtain ⟨x3, rfl, hc3, hz3, nN, uq, zn⟩ := bZ (b0 := w.heap.size) (b1 := w.heap.size + 1) (b2 := w.heap.size + 2) hb3 rfl ob ob ob
      have HB3 := aZ HB2.out hc3
      clear hb3 hc3
      try simp only [eF] at hz3
      go_wp2_with (refine qZ (.tmp 20) (.tmp 19) rfl rfl (w.heap.size + 1 + 1) 16 i _ (bG p i) (mO (bG p i (i / 2))) 85 rfl rfl (Nat.mul_comm _ _) ob hlt ?_)
      go_roundw
      case rel => exact ⟨i + 1, _, by simp, jf ob ob (by rw [QB p h1 hp]; exact ob), sz, sz, sz, pl HB3.out, by omega, by omega⟩
      case measure => first | (simp [intOf]; done) | (simp [intOf]; omega)
    · have hp2 : ((i : Int) % 2 = 0) = False := eq_false (by omega)
      have e4 : IntKind.i64.wrap ((i : Int) - 1) = ((i - 1 : Nat) : Int) := (IntWalk.i64_in _ (by omega)).trans (by omega)
      have hlt1 : ((i - 1 : Nat) : Int) < 16 := by omega
      go_wp2_with fail
      refine st1 w [8] 9 (ak (b := w.heap.size) ob (ak (b := w.heap.size + 1) ob (ak (b := w.heap.size + 2) ob (aO (pl HB2.out))))) (fun HS => ?_)
      refine tk3 0 (some 21) HS (h := ?_)
      refine tk3 1 (some 22) HS (h := ?_)
      refine tk3 2 (some 23) HS (h := ?_)
      refine tk3 3 (some 24) HS (h := ?_)
      refine tk3 4 (some 25) HS (v := (bG p i (i - 1)).v) (hy := by (intro v hv; obtain ⟨x, rfl, _, _, n0, n1, n2⟩ := hv.eG; exact jT (.tmp 24) rfl (w.heap.size + 1 + 1) 16 (i - 1) _ (bG p i) 85 rfl (by omega) ob (by omega))) (h := ?_)
      refine tk3 5 (some 26) HS (v := p.v) (hy := by (intro v hv; obtain ⟨x, rfl, _, _, n0, n1, n2⟩ := hv.eG; exact aG 38 (.tmp 1) rfl (w.heap.size) 0 rfl p.cL p.cA 38 ob (by kernel_rfl) (by kernel_rfl) (by kernel_rfl))) (h := ?_)
      refine dH 6 (some 27) (h := fun K hK => ?_)
      go_simp
      refine (ql _ _ (qR _ _ _) pX.out _ (kS.out.next HS.1)).mono ?_
      rintro e y ⟨rfl, hb⟩
      refine hK.out _ _ (HS.step hb rfl) ?_
      clear HS hb
      intro HS
      refine tk3 7 (some 28) HS (h := ?_)
      obtain ⟨x3, rfl, hk3, hz3, nN, uq, zn⟩ := HS.eG
      have HB3 : Hid (Below w.heap.size w x3) := hk3.below
      clear HS hk3
      refine pO 8 none (h := fun K hK => ?_)
      refine (if_pos (by rfl)).mpr ?_
      refine zC (.tmp 28) (.tmp 27) rfl (w.heap.size + 1 + 1) 16 i _ (bG p i) (jl (bG p i (i - 1)) p) 85 rfl rfl (Nat.mul_comm _ _) ob hlt ?_
      refine hK.out _ _ ?_
      refine done_ (by kernel_rfl) ?_
      go_wp2_with fail
      go_roundw
      case rel => exact ⟨i + 1, _, by simp, jf ob ob (by rw [Ws p h1 hp]; exact ob), sz, sz, sz, pl HB3.out, by omega, by omega⟩
      case measure => first | (simp [intOf]; done) | (simp [intOf]; omega)
  · obtain rfl : i = 16 := by have := H.out.2.2; omega
    go_wp2_with (first | (refine yZ 85 16 (.tmp 3) rfl rfl (w.heap.size + 1 + 1) (bG p 16) 85 rfl (by kernel_rfl) (by kernel_rfl) ob ?_) | (refine yg 85 16 (.tmp 2) (.tmp 29) rfl rfl (w.heap.size + 1) (bG p 16) (fun _ => dh) 85 rfl rfl (by kernel_rfl) ob ?_))
    exact bodyPost_ret (v := .agg (flat 16 (bG p 16)).toArray) (fA rfl rfl (Dy 85 16 (w.heap.size + 1) _ 85 (by kernel_rfl) (by kernel_rfl) ob)) rfl ⟨rfl, pl HB2.out⟩
end
section
open Go.RowKit Go.Proofs.YtehfkbaendajbaaGreatDoorW.PrintLast
theorem Ec (off : Nat) : ∀ (l : List Value) (k : Nat) (c : Array Value), (l.zipIdx k).foldl (fun cs p => cs.setIfInBounds (off + p.2) p.1) c = spl c (off + k) l
 | [], _, _ => rfl
 | v :: l, k, c => by
  rw [List.zipIdx_cons, List.foldl_cons, Ec off l (k + 1)]
  rfl
theorem Js (off : Nat) (vs c : Array Value) : vs.zipIdx.foldl (fun cs (p : Value × Nat) => cs.setIfInBounds (off + p.2) p.1) c = spl c off vs.toList := by
 rw [← Array.foldl_toList, Array.toList_zipIdx, Ec off vs.toList 0 c, Nat.add_zero]
def both (n : Nat) (f g : Nat → Pn) : Nat → Pn := fun i => if i < n then f i else g (i - n)
theorem RX (f g : Nat → Pn) (z : Nat → Pn) : spl (spl (flat 32 z).toArray 0 (flat 16 f)) 320 (flat 16 g) = (flat 32 (both 16 f g)).toArray := by
 have hz : (flat 32 z).length = 640 := dL _ _
 have hf : (flat 16 f).length = 320 := dL _ _
 have hg : (flat 16 g).length = 320 := dL _ _
 have e : flat 32 (both 16 f g) = flat 16 f ++ flat 16 g := (anh 16 16 f g).symm
 apply Array.ext_getElem?
 intro k
 rw [xU _ _ _ _ (by rw [Cm, List.size_toArray, hz, hg]; omega), xU _ _ _ _ (by rw [List.size_toArray, hz, hf]; omega), e]
 simp only [List.getElem?_toArray, hf, hg]
 by_cases h1 : k < 320
 · rw [if_neg (by omega), if_pos (by omega), List.getElem?_append_left (by omega), Nat.sub_zero]
 · by_cases h2 : k < 640
   · rw [if_pos (by omega), List.getElem?_append_right (by omega), hf]
   · rw [if_neg (by omega), if_neg (by omega), List.getElem?_eq_none (by omega), List.getElem?_eq_none (by rw [List.length_append]; omega)]
section
variable {P : Program} {o : Oper} {a : Act} {w : World}
theorem Eb (place : Nat → Option (Nat × Nat)) (Z : Array Value) (i : Nat) (A : Array Value) (rest : List (Nat × Value)) (off : Nat) (hp : place i = some (off, A.size)) (h2 : off + A.size ≤ Z.size) : Instr.fill place Z ((i, .agg A) :: rest) = Instr.fill place (spl Z off A.toList) rest := by
 rw [Instr.fill]
 simp only [hp, Value.cells]
 refine (if_neg ?_).trans (congrArg (fun c => Instr.fill place c rest) (Js off A Z))
 simp
 omega
theorem Tv (sz : Nat) (A B Z : Array Value) (hA : A.size = sz) (hB : B.size = sz) (hZ : Z.size = 2 * sz) : Instr.fill (fun i => some (i * sz, sz)) Z [(0, .agg A), (1, .agg B)] = some (spl (spl Z 0 A.toList) sz B.toList) := by
 rw [Eb _ Z 0 A _ 0 (by rw [hA, Nat.zero_mul]) (by omega), Eb _ _ 1 B _ sz (by rw [hB, Nat.one_mul]) (by rw [Cm]; omega)]
 rfl
theorem Oj (t e : TypeId) (n sz : Nat) (A B Z : Array Value) (hu : P.underlying t = some (.array n e)) (hz : (P.info? t).map (fun i => i.zero.map (·.cells)) = some (some Z)) (hs : (P.info? e).map (·.size) = some sz) (hA : A.size = sz) (hB : B.size = sz) (hZ : Z.size = 2 * sz) :
 P.built t [(0, .agg A), (1, .agg B)] = some (spl (spl Z 0 A.toList) sz B.toList) := by
 unfold Program.built
 cases hi : P.info? t with
 | none => rw [hi] at hz; cases hz
 | some it =>
  rw [hi] at hz
  cases hz0 : it.zero with
  | none => simp [hz0] at hz
  | some z =>
   have hzc : z.cells = Z := by simpa [hz0] using hz
   cases hie : P.info? e with
   | none => rw [hie] at hs; cases hs
   | some ie =>
    have hsz : ie.size = sz := by simpa [hie] using hs
    simp only [hu, hz0, hzc, hie, hsz]
    exact Tv sz A B Z hA hB hZ
theorem Ea (x y : Operand) (f g : Nat → Pn) (ho : o.op = .build 87 #[(0, x), (1, y)]) (hx : a.eval x = .agg (flat 16 f).toArray) (hy : a.eval y = .agg (flat 16 g).toArray) : (execOp a.eval o).run Tryz.prog w = .ok (.value (.agg (flat 32 (both 16 f g)).toArray)) w := by
 have h := run_build (P := Tryz.prog) w 87 #[(0, .agg (flat 16 f).toArray), (1, .agg (flat 16 g).toArray)] _ (Oj 87 85 2 320 _ _ (flat 32 fun _ => dh).toArray (by kernel_rfl) (by kernel_rfl) (by kernel_rfl) (by rw [List.size_toArray, dL]) (by rw [List.size_toArray, dL]) (by rw [List.size_toArray, dL]))
 rw [RX] at h
 unfold execOp
 simp only [ho, Sem.run_bind, List.map_toArray, List.map_cons, List.map_nil, hx, hy, h, Result.andThen_ok, Sem.run_pure]
theorem Lh (w : World) : (Instr.alloc 87 true (.tuple #[])).run Tryz.prog w = .ok (.pointer (some ⟨w.heap.size, 0, none⟩)) (w.alloc (.cells (flat 32 fun _ => dh).toArray 87)) := by kernel_rfl
theorem zl (ho : o.op = .alloc 87) : (execOp a.eval o).run Tryz.prog w = .ok (.value (.pointer (some ⟨w.heap.size, 0, none⟩))) (w.alloc (.cells (flat 32 fun _ => dh).toArray 87)) := by
 unfold execOp
 simp only [ho, Sem.run_bind, Lh, Result.andThen_ok, Sem.run_pure]
theorem qV (ty : TypeId) (n : Nat) (x y : Operand) (ho : o.op = .store ty x y) (b : Nat) (f : Nat → Pn) (g : Nat → Pn) (t : TypeId) (hx : a.eval x = .pointer (some ⟨b, 0, none⟩)) (hy : a.eval y = .agg (flat n f).toArray) (hs : (P.info? ty).map (·.size) = some (20 * n)) (h : w.heap[b]? = some (.cells (flat n g).toArray t)) : (execOp a.eval o).run P w = .ok .skip (w.pin b (.cells (flat n f).toArray t)) := by
 have hr := run_storeVar_mid (P := P) w b 0 ty (flat n f).toArray (CG h (by rw [List.size_toArray, List.size_toArray, dL, dL]; omega)) (by rw [List.size_toArray, dL]; exact hs) (all_oneCell_toArray (H9 f n))
 have e : w.setCells b 0 (flat n f).toArray.toList = w.pin b (.cells (flat n f).toArray t) := by
  conv => lhs; rw [← aN h]
  rw [nP]
  congr 2
  apply Array.ext_getElem?
  intro k
  rw [xU _ _ _ _ (by rw [List.size_toArray, dL, dL]; omega), dL]
  by_cases hk : k < 20 * n
  · rw [if_pos (by omega), Nat.sub_zero]; simp
  · rw [if_neg (by omega)]
    simp only [List.getElem?_toArray]
    rw [List.getElem?_eq_none (by rw [dL]; omega), List.getElem?_eq_none (by rw [dL]; omega)]
 unfold execOp
 simp only [ho, hx, hy, Instr.storeAt, Instr.sureAddr, Sem.run_bind, Sem.run_pure, Result.andThen_ok, hr, e]
end
end
end Go.Proofs.YtehfkbaendajbaaGreatDoor
