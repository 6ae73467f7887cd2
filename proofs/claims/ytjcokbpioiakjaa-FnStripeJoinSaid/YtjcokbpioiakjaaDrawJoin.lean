/- DrawStripeJoin and DrawStripeWhole draw columns. -/
import Derived.Test.YtjcokbpioiakjaaSpoil
import Derived.Test.YtjcokbpioiakjaaStripe
import Derived.Deep.DeepCutAuto
namespace Go.Proofs.Ytjcokbpioiakjaa
open Go.RowKit
set_option linter.unusedVariables false

/-- three drawn columns in slot v -/
def Cols3 (w0 : World) (R b q : Nat) (v : Value) (w : World) : Prop :=
  ∃ (g p : Nat) (x y z : ByteArray), v = .slice (some ⟨g, 0, none⟩) 3 3 ∧ R < g ∧ x.size ≤ b ∧ y.size ≤ b ∧ z.size ≤ b ∧ p ≤ q ∧ Bk w g 9 #[.string x, .string y, .string z] ∧ Rdr w R p ∧ Below w0.heap.size w0 w
theorem Cols3.cut {w0 w1 w2 : World} {R p : Nat} {s : ByteArray} {A : Value} (hR : w0.heap.size = R) (hr : Rdr w1 R p) (hb : Below w0.heap.size w0 w1) (h1 : s.size ≤ 129) (hp : p ≤ 60) (hc : Cols (cutT s) w1 A w2) : Cols3 w0 R 200 60 A w2 := by
  obtain ⟨g, rfl, hg, hB, hb2⟩ := hc
  have hl := hr.lt
  have hsz : (s.extract 0 ((s.size + 1) / 2)).size ≤ 200 := by rw [exs _ _ _ (by omega) (by omega)]; omega
  have hsz2 : (s.extract ((s.size + 1) / 2) s.size).size ≤ 200 := by rw [exs _ _ _ (by omega) (by omega)]; omega
  have hsz3 : (parT s).size ≤ 200 := by
    show (xr _ _).toArray.size ≤ 200
    rw [List.size_toArray, xr_len, List.length_take]
    omega
  exact ⟨g, p, _, _, _, rfl, by omega, hsz, hsz2, hsz3, hp, hB, hr.after hb2, hb.trans (hb2.mono hb.size)⟩
theorem Cols3.mk_ {w0 w : World} {R p : Nat} (hR : w0.heap.size = R) (hr : Rdr w R p) (hb : Below w0.heap.size w0 w) (hp : p ≤ 60) : Cols3 w0 R 200 60 (.slice (some ⟨w.heap.size, 0, none⟩) 3 3) (w.alloc (.cells #[.string ⟨#[97]⟩, .string ⟨#[98]⟩, .string ⟨#[99]⟩] 9)) :=
  ⟨_, p, _, _, _, rfl, hr.lt, (by show 1 ≤ 200; omega), (by show 1 ≤ 200; omega), (by show 1 ≤ 200; omega), hp, Bk.fresh _ _ _, hr.after (bel1 _ _), hb.alloc hb.size _⟩
theorem three_at {w : World} {g k b : Nat} {t : TypeId} {x y z : ByteArray} (h : Bk w g t #[.string x, .string y, .string z]) (hx : x.size ≤ b) (hy : y.size ≤ b) (hz : z.size ≤ b) (hk : k < 3) : ∃ u : ByteArray, w.cell? ⟨g, k, none⟩ = some (.string u) ∧ u.size ≤ b := by
  rw [h.cell k]
  match k, hk with
  | 0, _ => exact ⟨x, rfl, hx⟩
  | 1, _ => exact ⟨y, rfl, hy⟩
  | 2, _ => exact ⟨z, rfl, hz⟩
theorem Cols3.put {w0 w : World} {R p g k : Nat} {x y z u : ByteArray} (hR : R < g) (hw : w0.heap.size = R) (h : Bk w g 9 #[.string x, .string y, .string z]) (hx : x.size ≤ 200) (hy : y.size ≤ 200) (hz : z.size ≤ 200) (hu : u.size ≤ 204) (hk : k < 3) (hp : p ≤ 200) (hr : Rdr w R p) (hb : Below w0.heap.size w0 w) :
    Cols3 w0 R 204 200 (.slice (some ⟨g, 0, none⟩) 3 3) (w.setCell ⟨g, k, none⟩ (.string u)) := by
  have hB := h.put k (.string u)
  have hr2 : Rdr (w.setCell ⟨g, k, none⟩ (.string u)) R p := hr.fr ((Fr.refl (fun b => b = g) w).setCell (.inl rfl) _) (fun b hb => by omega)
  have hb2 := hb.setCell (p := ⟨g, k, none⟩) (show w0.heap.size ≤ g by omega) (.string u)
  match k, hk with
  | 0, _ => exact ⟨g, p, _, _, _, rfl, hR, hu, by omega, by omega, hp, hB, hr2, hb2⟩
  | 1, _ => exact ⟨g, p, _, _, _, rfl, hR, by omega, hu, by omega, hp, hB, hr2, hb2⟩
  | 2, _ => exact ⟨g, p, _, _, _, rfl, hR, by omega, by omega, hu, hp, hB, hr2, hb2⟩
/-- the reference's cut, whatever the size -/
theorem specCut_x (s : ByteArray) (hs : s.size ≤ 129) (w : World) :
    Calls Try.prog 23 #[.string s] w fun r w' => ∃ A ok, r = .returned (.tuple #[A, .bool ok]) ∧ (ok = true → Cols (cutT s) w A w') ∧ Below w.heap.size w w' := by
  cases h : inR s.size 1 128
  · exact (specStripeCut_no s h w).mono fun r w' hh => ⟨_, false, hh.1, (fun e => by cases e), hh.2⟩
  · refine (specStripeCut_ok s h w).mono fun r w' hh => ?_
    obtain ⟨A, e, hc⟩ := hh
    exact ⟨A, true, e, fun _ => hc, by obtain ⟨g, _, _, _, hb⟩ := hc; exact hb⟩
/-- a drawn row of columns -/
def Cols4 (w0 : World) (R q : Nat) (v : Value) (w : World) : Prop :=
  ∃ (A : Option Addr) (n p : Nat) (zs : List ByteArray), v = .slice A n n ∧ n ≤ 3 ∧ (∀ b o, A = some ⟨b, o, none⟩ → ¬ b = R) ∧ (∀ z ∈ zs, z.size ≤ 1000) ∧ p ≤ q ∧ Rd w 1 A n (zs.map Value.string) ∧ Rdr w R p ∧ Below w0.heap.size w0 w
theorem Bk.three {w : World} {g : Nat} {x y z : ByteArray} (h : Bk w g 9 #[.string x, .string y, .string z]) : Rd w 1 (some ⟨g, 0, none⟩) 3 ([x, y, z].map Value.string) := Bk.rdT (zs := [x, y, z]) h
theorem Bk.two {w : World} {g : Nat} {x y z : ByteArray} (h : Bk w g 9 #[.string x, .string y, .string z]) : Rd w 1 (some ⟨g, 1, none⟩) 2 ([y, z].map Value.string) := by
  refine ⟨rfl, fun _ => ⟨g, 1, rfl, h.lt, fun j u hj => ?_⟩⟩
  rw [h.cell]
  match j, hj with
  | 0, hj => exact hj
  | 1, hj => exact hj
  | j + 2, hj => simp at hj
theorem mem3 {x y z : ByteArray} {b : Nat} (hx : x.size ≤ b) (hy : y.size ≤ b) (hz : z.size ≤ b) : ∀ u ∈ [x, y, z], u.size ≤ b := by
  intro u hu
  simp only [List.mem_cons, List.not_mem_nil, or_false] at hu
  rcases hu with rfl | rfl | rfl <;> assumption

/-- what DrawStripeWhole draws -/
def DrawnW (w : World) (r : Ending) (w' : World) : Prop := ∃ (A : Option Addr) (n size : Nat) (zs : List ByteArray), r = .returned (.tuple #[.slice A n n, .int .i64 size]) ∧ n ≤ 3 ∧ size ≤ 1000 ∧ (∀ z ∈ zs, z.size ≤ 1000) ∧ Rd w' 1 A n (zs.map Value.string) ∧ Below w.heap.size w w'

set_option maxHeartbeats 4000000 in
theorem drawStripeWhole_any (A : Option Addr) (n c : Nat) (zs : List Int) (w : World) (h : U8s w A n c zs) :
    Calls Try.prog 28 #[.slice A n c] w (DrawnW w) := by
  skip
  have hm := Nat.le_trans h.1 h.2.1
  go_enter Try.func28, Try.ntmps28
  go_wp2_with fail
  refine (l6Open_any _ _ _ _ _ h).mono ?_; rintro r w1 ⟨rfl, hr, hb⟩
  obtain ⟨R, hR⟩ : ∃ R, R = w.heap.size := ⟨_, rfl⟩
  rw [← hR] at hr
  rw [← hR]
  have HR := hide hr
  have HB := hide hb
  clear hr hb hm
  have hR' := hide hR
  clear hR
  go_wp2_with fail
  refine (l91Block_any R 0 _ HR.out (by omega)).mono ?_; rintro r w2 ⟨s, q, rfl, hl, hq, hr2, hf2⟩
  have HR := hide hr2
  have HB := hide (fr_new HB.out (Nat.le_of_eq hR'.out.symm) hf2)
  clear hr2 hf2
  go_wp2_with fail
  refine (specCut_x s hl _).mono ?_; rintro r w3 ⟨A, ok, rfl, hc, hb3⟩
  have HC := hide hc
  have HB3 := hide (HB.out.trans (hb3.mono HB.out.size))
  have HR3 := hide (HR.out.after hb3)
  clear hc hb3
  go_upto_if 19 with fail
  go_cut [6] (fun c7 wx => Hid (Cols3 w R 200 60 c7 wx))
  case first =>
    cases ok
    · go_wp2_with fail
      go_meet
      exact hide (Cols3.mk_ hR'.out.symm HR3.out HB3.out (by omega))
    · go_wp2_with fail
      go_meet
      exact hide (Cols3.cut hR'.out.symm HR.out HB.out hl (by omega) (HC.out trivial))
  clear HC HB3 HR3 HB HR
  obtain ⟨g, p, x, y, z, rfl, hg, hx, hy, hz, hp, hB, hr, hb⟩ := hcut.out
  have HK := hide hB
  have HR := hide hr
  have HB := hide hb
  clear hB hr hb hcut
  go_upto_if 23 with fail
  refine (pick_any R p 2 _ HR.out (by omega) (by omega) (by omega)).mono ?_; rintro r w4 ⟨v, rfl, v0, _, _, hr, hf⟩
  have HK := hide (HK.out.fr hf (by omega))
  have HB := hide (fr_new HB.out (Nat.le_of_eq hR'.out.symm) hf)
  have HR := hide hr
  clear hr hf
  go_upto_if 23 with fail
  go_cut [6] (fun c7 wx => Hid (Cols3 w R 204 200 c7 wx))
  case first =>
    by_cases hv : v = 0
    · subst hv
      go_wp2_with fail
      refine (pick_any R (p + 1) 3 _ HR.out (by omega) (by omega) (by omega)).mono ?_; rintro r w5 ⟨k, rfl, k0, k1, _, hr, hf⟩
      have k3 := k1 (by omega)
      obtain ⟨k, rfl⟩ : ∃ j : Nat, k = (j : Int) := ⟨k.toNat, by omega⟩
      have HK := hide (HK.out.fr hf (by omega))
      have HB := hide (fr_new HB.out (Nat.le_of_eq hR'.out.symm) hf)
      have HR := hide hr
      clear hr hf k1
      obtain ⟨u, hu, hus⟩ := three_at HK.out hx hy hz (show k < 3 by omega)
      go_wp2_with fail
      refine (l91Spoil_any R (p + 1 + 1) u (by omega) _ HR.out (by omega)).mono ?_; rintro r w6 ⟨u2, q2, rfl, hl2, hq2, hr, hf⟩
      have HK := hide (HK.out.fr hf (by omega))
      have HB := hide (fr_new HB.out (Nat.le_of_eq hR'.out.symm) hf)
      have HR := hide hr
      clear hr hf
      have hfz := HK.out.frozen k
      have hck : ∃ o, w6.cell? ⟨g, k, none⟩ = some o := by
        obtain ⟨o, ho, _⟩ := three_at HK.out hx hy hz (show k < 3 by omega)
        exact ⟨_, ho⟩
      obtain ⟨o, hck⟩ := hck
      go_wp2_with fail
      go_meet
      exact hide (Cols3.put hg hR'.out.symm HK.out hx hy hz (by omega) (by omega) (by omega) HR.out HB.out)
    · have hv0 : (v == 0) = false := by rw [beq_eq_false_iff_ne]; exact hv
      go_wp2_with fail
      go_meet
      exact hide ⟨g, p + 1, x, y, z, rfl, hg, by omega, by omega, by omega, by omega, HK.out, HR.out, HB.out⟩
  clear HK HB HR hx hy hz hp hg
  obtain ⟨g, p, x, y, z, rfl, hg, hx, hy, hz, hp, hB, hr, hb⟩ := hcut.out
  have HK := hide hB
  have HR := hide hr
  have HB := hide hb
  clear hB hr hb hcut

  go_wp2_with fail
  refine bodyPost_ret (v := .tuple #[.slice (some ⟨g, 0, none⟩) 3 3, .int .i64 s.size]) (by simp [results, Try.results28, go_sem]) rfl ?_
  exact ⟨_, 3, s.size, [x, y, z], rfl, Nat.le_refl _, by omega, mem3 (by omega) (by omega) (by omega), HK.out.three, HB.out⟩

/-- what DrawStripeJoin draws -/
def DrawnJ (w : World) (r : Ending) (w' : World) : Prop := ∃ (A : Option Addr) (n : Nat) (size lost : Int) (zs : List ByteArray), r = .returned (.tuple #[.slice A n n, .int .i64 size, .int .i64 lost]) ∧ n ≤ 3 ∧ -10 ≤ size ∧ size ≤ 1000 ∧ -10 ≤ lost ∧ lost ≤ 10 ∧ (∀ z ∈ zs, z.size ≤ 1000) ∧ Rd w' 1 A n (zs.map Value.string) ∧ Below w.heap.size w w'
theorem deltasL {j : Nat} (hj : j < 7) : ∃ y : Int, ([.int .i64 0, .int .i64 0, .int .i64 0, .int .i64 0, .int .i64 1, .int .i64 (-1), .int .i64 130] : List Value)[j]? = some (.int .i64 y) ∧ -1 ≤ y ∧ y ≤ 130 := by
  match j, hj with
  | 0, _ => exact ⟨0, rfl, by omega, by omega⟩
  | 1, _ => exact ⟨0, rfl, by omega, by omega⟩
  | 2, _ => exact ⟨0, rfl, by omega, by omega⟩
  | 3, _ => exact ⟨0, rfl, by omega, by omega⟩
  | 4, _ => exact ⟨1, rfl, by omega, by omega⟩
  | 5, _ => exact ⟨-1, rfl, by omega, by omega⟩
  | 6, _ => exact ⟨130, rfl, by omega, by omega⟩
theorem deltas {w : World} {g j : Nat} {t : TypeId} (h : Bk w g t #[.int .i64 0, .int .i64 0, .int .i64 0, .int .i64 0, .int .i64 1, .int .i64 (-1), .int .i64 130]) (hj : j < 7) : ∃ y : Int, w.cell? ⟨g, j, none⟩ = some (.int .i64 y) ∧ -1 ≤ y ∧ y ≤ 130 := by
  rw [h.cell]
  match j, hj with
  | 0, _ => exact ⟨0, rfl, by omega, by omega⟩
  | 1, _ => exact ⟨0, rfl, by omega, by omega⟩
  | 2, _ => exact ⟨0, rfl, by omega, by omega⟩
  | 3, _ => exact ⟨0, rfl, by omega, by omega⟩
  | 4, _ => exact ⟨1, rfl, by omega, by omega⟩
  | 5, _ => exact ⟨-1, rfl, by omega, by omega⟩
  | 6, _ => exact ⟨130, rfl, by omega, by omega⟩
theorem fresh_of {w : World} {R p : Nat} (_ : Rdr w R p) (t : TypeId) (cs : Array Value) : Bk (w.alloc (.cells cs t)) w.heap.size t cs := Bk.fresh _ _ _

set_option maxHeartbeats 8000000 in
theorem drawStripeJoin_any (A : Option Addr) (n c : Nat) (zs : List Int) (w : World) (h : U8s w A n c zs) :
    Calls Try.prog 26 #[.slice A n c] w (DrawnJ w) := by
  skip
  have hm := Nat.le_trans h.1 h.2.1
  go_enter Try.func26, Try.ntmps26
  go_wp2_with fail
  refine (l6Open_any _ _ _ _ _ h).mono ?_; rintro r w1 ⟨rfl, hr, hb⟩
  obtain ⟨R, hR⟩ : ∃ R, R = w.heap.size := ⟨_, rfl⟩
  rw [← hR] at hr
  rw [← hR]
  have HR := hide hr
  have HB := hide hb
  clear hr hb hm
  have hR' := hide hR
  clear hR
  go_wp2_with fail
  refine (l91Block_any R 0 _ HR.out (by omega)).mono ?_; rintro r w2 ⟨s, q, rfl, hl, hq, hr2, hf2⟩
  have HR := hide hr2
  have HB := hide (fr_new HB.out (Nat.le_of_eq hR'.out.symm) hf2)
  clear hr2 hf2
  go_wp2_with fail
  refine (specCut_x s hl _).mono ?_; rintro r w3 ⟨A, ok, rfl, hc, hb3⟩
  have HC := hide hc
  have HB3 := hide (HB.out.trans (hb3.mono HB.out.size))
  have HR3 := hide (HR.out.after hb3)
  clear hc hb3
  go_upto_if 20 with fail
  go_cut [7] (fun c7 wx => Hid (Cols3 w R 200 60 c7 wx))
  case first =>
    cases ok
    · go_wp2_with fail
      go_meet
      exact hide (Cols3.mk_ hR'.out.symm HR3.out HB3.out (by omega))
    · go_wp2_with fail
      go_meet
      exact hide (Cols3.cut hR'.out.symm HR.out HB.out hl (by omega) (HC.out trivial))
  clear HC HB3 HR3 HB HR
  obtain ⟨g, p, x, y, z, rfl, hg, hx, hy, hz, hp, hB, hr, hb⟩ := hcut.out
  have HK := hide hB
  have HR := hide hr
  have HB := hide hb
  clear hB hr hb hcut
  go_upto_if 24 with fail
  refine (pick_any R p 3 _ HR.out (by omega) (by omega) (by omega)).mono ?_; rintro r w4 ⟨v, rfl, v0, _, _, hr, hf⟩
  have HK := hide (HK.out.fr hf (by omega))
  have HB := hide (fr_new HB.out (Nat.le_of_eq hR'.out.symm) hf)
  have HR := hide hr
  clear hr hf
  go_upto_if 24 with fail
  go_cut [7] (fun c7 wx => Hid (Cols3 w R 204 200 c7 wx))
  case first =>
    by_cases hv : v = 0
    · subst hv
      go_wp2_with fail
      refine (pick_any R (p + 1) 3 _ HR.out (by omega) (by omega) (by omega)).mono ?_; rintro r w5 ⟨k, rfl, k0, k1, _, hr, hf⟩
      have k3 := k1 (by omega)
      obtain ⟨k, rfl⟩ : ∃ j : Nat, k = (j : Int) := ⟨k.toNat, by omega⟩
      have HK := hide (HK.out.fr hf (by omega))
      have HB := hide (fr_new HB.out (Nat.le_of_eq hR'.out.symm) hf)
      have HR := hide hr
      clear hr hf k1
      obtain ⟨u, hu, hus⟩ := three_at HK.out hx hy hz (show k < 3 by omega)
      go_wp2_with fail
      refine (l91Spoil_any R (p + 1 + 1) u (by omega) _ HR.out (by omega)).mono ?_; rintro r w6 ⟨u2, q2, rfl, hl2, hq2, hr, hf⟩
      have HK := hide (HK.out.fr hf (by omega))
      have HB := hide (fr_new HB.out (Nat.le_of_eq hR'.out.symm) hf)
      have HR := hide hr
      clear hr hf
      have hfz := HK.out.frozen k
      have hck : ∃ o, w6.cell? ⟨g, k, none⟩ = some o := by
        obtain ⟨o, ho, _⟩ := three_at HK.out hx hy hz (show k < 3 by omega)
        exact ⟨_, ho⟩
      obtain ⟨o, hck⟩ := hck
      go_wp2_with fail
      go_meet
      exact hide (Cols3.put hg hR'.out.symm HK.out hx hy hz (by omega) (by omega) (by omega) HR.out HB.out)
    · have hv0 : (v == 0) = false := by rw [beq_eq_false_iff_ne]; exact hv
      go_wp2_with fail
      go_meet
      exact hide ⟨g, p + 1, x, y, z, rfl, hg, by omega, by omega, by omega, by omega, HK.out, HR.out, HB.out⟩
  clear HK HB HR hx hy hz hp hg
  obtain ⟨g, p, x, y, z, rfl, hg, hx, hy, hz, hp, hB, hr, hb⟩ := hcut.out
  have HK := hide hB
  have HR := hide hr
  have HB := hide hb
  clear hB hr hb hcut

  go_upto_if 38 with fail
  refine (pick_any R p 20 _ HR.out (by omega) (by omega) (by omega)).mono ?_; rintro r w4 ⟨v, rfl, v0, _, _, hr, hf⟩
  have HK := hide (HK.out.fr hf (by omega))
  have HB := hide (fr_new HB.out (Nat.le_of_eq hR'.out.symm) hf)
  have HR := hide hr
  clear hr hf
  go_upto_if 38 with fail
  go_cut [7] (fun c7 wx => Hid (Cols4 w R 300 c7 wx))
  case first =>
    by_cases hv : v = 0
    · subst hv
      go_wp2_with fail
      go_meet
      exact hide ⟨_, 2, p + 1, [y, z], rfl, by omega, fun b o e => by injection e with e; injection e with e1 e2; omega, fun u hu => by have := mem3 (x := x) hx hy hz u (List.mem_cons_of_mem _ hu); omega, by omega, HK.out.two, HR.out, HB.out⟩
    · have hv0 : (v == 0) = false := by rw [beq_eq_false_iff_ne]; exact hv
      go_wp2_with fail
      go_meet
      exact hide ⟨_, 3, p + 1, [x, y, z], rfl, by omega, fun b o e => by injection e with e; injection e with e1 e2; omega, fun u hu => by have := mem3 hx hy hz u hu; omega, by omega, HK.out.three, HR.out, HB.out⟩
  clear HK HB HR hx hy hz hp hg
  obtain ⟨A3, n3, p, zs3, rfl, h3, hA3, hz3, hp, hK, hr, hb⟩ := hcut.out
  have HA3 := hide hA3
  clear hA3
  have HK := hide hK
  have HZ := hide hz3
  have HR := hide hr
  have HB := hide hb
  clear hK hz3 hr hb hcut
  have hs0 : (s.size : Int) ≤ 129 := by omega
  have hlt := HR.out.lt
  go_upto_region 11 with fail
  have hkeep := HK.out.after (Below.refl _ wc).drew
  have HK := hide hkeep
  have hkeep2 := HR.out.after (Below.refl _ wc).drew
  have HR := hide hkeep2
  clear hkeep hkeep2
  have hlt2 : ¬ wc.heap.size = R := by omega
  refine wp_region_held_drew (S := fun x => Below w.heap.size w x) (by kernel_rfl) (HB.out.drew) (fun hH0 => ?_)
  refine wpAnyH_take (i := 0) (v := ?_) rfl (by kernel_rfl) (by kernel_rfl) (by kernel_rfl) (fun _ _ _ h => h) (Or.inl ⟨by rfl, fun w hS => ?_⟩) hH0 ?_
  rotate_left
  · go_simp; try exact rfl
  simp only [Act.put, List.setIfInBounds_toArray, List.set_cons_zero, List.set_cons_succ, List.getElem_toArray, List.getElem_cons_zero]
  refine wpAnyH_take (i := 1) (v := ?_) rfl (by kernel_rfl) (by kernel_rfl) (by kernel_rfl) (fun _ _ _ h => h) (Or.inl ⟨by rfl, fun w hS => ?_⟩) hH0 ?_
  rotate_left
  · go_simp; try exact rfl
  simp only [Act.put, List.setIfInBounds_toArray, List.set_cons_zero, List.set_cons_succ, List.getElem_toArray, List.getElem_cons_zero, List.getElem_cons_succ]
  refine wpAnyH_take (i := 2) (v := ?_) rfl (by kernel_rfl) (by kernel_rfl) (by kernel_rfl) (fun _ _ _ h => h) (Or.inl ⟨by rfl, fun w hS => ?_⟩) hH0 ?_
  rotate_left
  · go_simp; try exact rfl
  simp only [Act.put, List.setIfInBounds_toArray, List.set_cons_zero, List.set_cons_succ, List.getElem_toArray, List.getElem_cons_zero, List.getElem_cons_succ]
  refine wpAnyH_take (i := 4) (v := ?_) rfl (by kernel_rfl) (by kernel_rfl) (by kernel_rfl) (fun _ _ _ h => h) (Or.inl ⟨by rfl, fun w hS => ?_⟩) hH0 ?_
  rotate_left
  · go_simp; try exact rfl
  simp only [Act.put, List.setIfInBounds_toArray, List.set_cons_zero, List.set_cons_succ, List.getElem_toArray, List.getElem_cons_zero, List.getElem_cons_succ]
  refine wpAnyH_take (i := 9) (v := ?_) rfl (by kernel_rfl) (by kernel_rfl) (by kernel_rfl) (fun _ _ _ h => h) (Or.inl ⟨by rfl, fun w hS => ?_⟩) hH0 ?_
  rotate_left
  · go_simp; try exact rfl
  simp only [Act.put, List.setIfInBounds_toArray, List.set_cons_zero, List.set_cons_succ, List.getElem_toArray, List.getElem_cons_zero, List.getElem_cons_succ]
  refine wpAnyH_take (i := 12) (v := ?_) rfl (by kernel_rfl) (by kernel_rfl) (by kernel_rfl) (fun _ _ _ h => h) (Or.inl ⟨by rfl, fun w hS => ?_⟩) hH0 ?_
  rotate_left
  · go_simp; try exact rfl
  simp only [Act.put, List.setIfInBounds_toArray, List.set_cons_zero, List.set_cons_succ, List.getElem_toArray, List.getElem_cons_zero, List.getElem_cons_succ]
  refine wpAnyH_ready (rs := [3, 5]) (by kernel_rfl) (by simp) (AllReadyH.cons rfl (fun K hK => ?_) (AllReadyH.cons rfl (fun K hK => ?_) (AllReadyH.nil)))
  · go_simp
    refine hK.out _ _ (hH0.alloc hH0.size _) (fun hH1 => ?_)
    clear hK K
    try simp only [Act.put, List.setIfInBounds_toArray, List.set_cons_zero, List.set_cons_succ]
    have HNE := hide (Nat.ne_of_gt HR.out.lt)
    have MK := hide (fresh_of HR.out 3 #[.int .i64 0, .int .i64 0, .int .i64 0, .int .i64 0, .int .i64 1, .int .i64 (-1), .int .i64 130])
    have HK := hide (HK.out.after (bel1 _ (.cells #[.int .i64 0, .int .i64 0, .int .i64 0, .int .i64 0, .int .i64 1, .int .i64 (-1), .int .i64 130] 3)))
    have HR := hide (HR.out.after (bel1 _ (.cells #[.int .i64 0, .int .i64 0, .int .i64 0, .int .i64 0, .int .i64 1, .int .i64 (-1), .int .i64 130] 3)))
    refine wpAnyH_ready (rs := [5]) (by kernel_rfl) (by simp) (AllReadyH.cons rfl (fun K hK => ?_) (AllReadyH.nil))
    go_simp
    go_at_call 36
    refine (pick_any R (p) 7 _ HR.out (by omega) (by omega) (by omega)).mono ?_; rintro r w5 ⟨j, rfl, j0, j1, _, hr, hf⟩
    have j2 := j1 (by omega)
    obtain ⟨j, rfl⟩ : ∃ k : Nat, j = (k : Int) := ⟨j.toNat, by omega⟩
    clear j1
    have HK := hide (HK.out.fr hf HA3.out)
    have MK := hide (MK.out.fr hf HNE.out)
    have HR := hide hr
    have HF := hide hf
    clear hr hf
    refine hK.out _ _ (fr_new hH1 (Nat.le_of_eq hR'.out.symm) HF.out) (fun hH2 => ?_)
    clear hK K
    try simp only [Act.put, List.setIfInBounds_toArray, List.set_cons_zero, List.set_cons_succ]
    refine wpAnyH_take (i := 6) (v := ?_) rfl (by kernel_rfl) (by kernel_rfl) (by kernel_rfl) (fun _ _ _ h => h) (Or.inl ⟨by rfl, fun w hS => ?_⟩) hH2 ?_
    rotate_left
    · go_simp; try exact rfl
    simp only [Act.put, List.setIfInBounds_toArray, List.set_cons_zero, List.set_cons_succ, List.getElem_toArray, List.getElem_cons_zero, List.getElem_cons_succ]
    refine wpAnyH_ready (rs := [7, 10]) (by kernel_rfl) (by simp) (AllReadyH.cons rfl (fun K hK => ?_) (AllReadyH.cons rfl (fun K hK => ?_) (AllReadyH.nil)))
    · obtain ⟨y, hy, y0, y1⟩ := deltas MK.out (show j < 7 by omega)
      replace hy : w5.cell? ⟨wc.heap.size, j, none⟩ = some (.int .i64 y) := hy
      have jw : IntKind.i64.wrap ((s.size : Int) + y) = (s.size : Int) + y := by rw [IntKind.wrap_i64]; omega
      go_simp
      refine hK.out _ _ (hH2) (fun hH3 => ?_)
      clear hK K
      try simp only [Act.put, List.setIfInBounds_toArray, List.set_cons_zero, List.set_cons_succ]
      refine wpAnyH_take (i := 8) (v := ?_) rfl (by kernel_rfl) (by kernel_rfl) (by kernel_rfl) (fun _ _ _ h => h) (Or.inl ⟨by rfl, fun w hS => ?_⟩) hH3 ?_
      rotate_left
      · go_simp; try exact rfl
      simp only [Act.put, List.setIfInBounds_toArray, List.set_cons_zero, List.set_cons_succ, List.getElem_toArray, List.getElem_cons_zero, List.getElem_cons_succ]
      refine wpAnyH_ready (rs := [10]) (by kernel_rfl) (by simp) (AllReadyH.cons rfl (fun K hK => ?_) (AllReadyH.nil))
      go_simp
      go_at_call 36
      refine (pick_any R (p + 1) 5 _ HR.out (by omega) (by omega) (by omega)).mono ?_; rintro r w6 ⟨a, rfl, a0, a1, _, hr, hf⟩
      have a2 := a1 (by omega)
      have aw : IntKind.i64.wrap (a - 1) = a - 1 := by rw [IntKind.wrap_i64]; omega
      clear a1
      have HK := hide (HK.out.fr hf HA3.out)
      have MK := hide (MK.out.fr hf HNE.out)
      have HR := hide hr
      have HF := hide hf
      clear hr hf
      refine hK.out _ _ (fr_new hH3 (Nat.le_of_eq hR'.out.symm) HF.out) (fun hH4 => ?_)
      clear hK K
      try simp only [Act.put, List.setIfInBounds_toArray, List.set_cons_zero, List.set_cons_succ]
      refine wpAnyH_take (i := 11) (v := ?_) rfl (by kernel_rfl) (by kernel_rfl) (by kernel_rfl) (fun _ _ _ h => h) (Or.inl ⟨by rfl, fun w hS => ?_⟩) hH4 ?_
      rotate_left
      · go_simp; try exact rfl
      simp only [Act.put, List.setIfInBounds_toArray, List.set_cons_zero, List.set_cons_succ, List.getElem_toArray, List.getElem_cons_zero, List.getElem_cons_succ]
      refine wpAnyH_ready (rs := [13]) (by kernel_rfl) (by simp) (AllReadyH.cons rfl (fun K hK => ?_) (AllReadyH.nil))
      go_simp
      go_at_call 36
      refine (pick_any R (p + 1 + 1) 2 _ HR.out (by omega) (by omega) (by omega)).mono ?_; rintro r w7 ⟨b, rfl, b0, b1, _, hr, hf⟩
      have b2 := b1 (by omega)
      have bw : IntKind.i64.wrap (a - 1 - b) = a - 1 - b := by rw [IntKind.wrap_i64]; omega
      clear b1
      have HK := hide (HK.out.fr hf HA3.out)
      have MK := hide (MK.out.fr hf HNE.out)
      have HR := hide hr
      have HF := hide hf
      clear hr hf
      refine hK.out _ _ (fr_new hH4 (Nat.le_of_eq hR'.out.symm) HF.out) (fun hH5 => ?_)
      clear hK K
      try simp only [Act.put, List.setIfInBounds_toArray, List.set_cons_zero, List.set_cons_succ]
      refine wpAnyH_take (i := 14) (v := ?_) rfl (by kernel_rfl) (by kernel_rfl) (by kernel_rfl) (fun _ _ _ h => h) (Or.inl ⟨by rfl, fun w hS => ?_⟩) hH5 ?_
      rotate_left
      · go_simp; try exact rfl
      simp only [Act.put, List.setIfInBounds_toArray, List.set_cons_zero, List.set_cons_succ, List.getElem_toArray, List.getElem_cons_zero, List.getElem_cons_succ]
      refine wpAnyH_take (i := 15) (v := ?_) rfl (by kernel_rfl) (by kernel_rfl) (by kernel_rfl) (fun _ _ _ h => h) (Or.inl ⟨by rfl, fun w hS => ?_⟩) hH5 ?_
      rotate_left
      · go_simp; try exact rfl
      simp only [Act.put, List.setIfInBounds_toArray, List.set_cons_zero, List.set_cons_succ, List.getElem_toArray, List.getElem_cons_zero, List.getElem_cons_succ]
      refine wpAnyH_take (i := 16) (v := ?_) rfl (by kernel_rfl) (by kernel_rfl) (by kernel_rfl) (fun _ _ _ h => h) (Or.inl ⟨by rfl, fun w hS => ?_⟩) hH5 ?_
      rotate_left
      · go_simp; try exact rfl
      simp only [Act.put, List.setIfInBounds_toArray, List.set_cons_zero, List.set_cons_succ, List.getElem_toArray, List.getElem_cons_zero, List.getElem_cons_succ]
      refine wpAnyH_take (i := 17) (v := ?_) rfl (by kernel_rfl) (by kernel_rfl) (by kernel_rfl) (fun _ _ _ h => h) (Or.inl ⟨by rfl, fun w hS => ?_⟩) hH5 ?_
      rotate_left
      · go_simp; try exact rfl
      simp only [Act.put, List.setIfInBounds_toArray, List.set_cons_zero, List.set_cons_succ, List.getElem_toArray, List.getElem_cons_zero, List.getElem_cons_succ]
      refine wpAnyH_done (by kernel_rfl) ?_ _
      go_wp2_with fail
      refine bodyPost_ret (v := .tuple #[.slice A3 n3 n3, .int .i64 (s.size + y), .int .i64 (a - 1 - b)]) (by simp [results, Try.results26, go_sem]) rfl ?_
      exact ⟨A3, n3, _, _, zs3, rfl, h3, by omega, by omega, by omega, by omega, HZ.out, HK.out, hH5⟩
    · go_simp
      go_at_call 36
      refine (pick_any R (p + 1) 5 _ HR.out (by omega) (by omega) (by omega)).mono ?_; rintro r w6 ⟨a, rfl, a0, a1, _, hr, hf⟩
      have a2 := a1 (by omega)
      have aw : IntKind.i64.wrap (a - 1) = a - 1 := by rw [IntKind.wrap_i64]; omega
      clear a1
      have HK := hide (HK.out.fr hf HA3.out)
      have MK := hide (MK.out.fr hf HNE.out)
      have HR := hide hr
      have HF := hide hf
      clear hr hf
      refine hK.out _ _ (fr_new hH2 (Nat.le_of_eq hR'.out.symm) HF.out) (fun hH3 => ?_)
      clear hK K
      try simp only [Act.put, List.setIfInBounds_toArray, List.set_cons_zero, List.set_cons_succ]
      refine wpAnyH_take (i := 11) (v := ?_) rfl (by kernel_rfl) (by kernel_rfl) (by kernel_rfl) (fun _ _ _ h => h) (Or.inl ⟨by rfl, fun w hS => ?_⟩) hH3 ?_
      rotate_left
      · go_simp; try exact rfl
      simp only [Act.put, List.setIfInBounds_toArray, List.set_cons_zero, List.set_cons_succ, List.getElem_toArray, List.getElem_cons_zero, List.getElem_cons_succ]
      refine wpAnyH_ready (rs := [7, 13]) (by kernel_rfl) (by simp) (AllReadyH.cons rfl (fun K hK => ?_) (AllReadyH.cons rfl (fun K hK => ?_) (AllReadyH.nil)))
      · obtain ⟨y, hy, y0, y1⟩ := deltas MK.out (show j < 7 by omega)
        replace hy : w6.cell? ⟨wc.heap.size, j, none⟩ = some (.int .i64 y) := hy
        have jw : IntKind.i64.wrap ((s.size : Int) + y) = (s.size : Int) + y := by rw [IntKind.wrap_i64]; omega
        go_simp
        refine hK.out _ _ (hH3) (fun hH4 => ?_)
        clear hK K
        try simp only [Act.put, List.setIfInBounds_toArray, List.set_cons_zero, List.set_cons_succ]
        refine wpAnyH_take (i := 8) (v := ?_) rfl (by kernel_rfl) (by kernel_rfl) (by kernel_rfl) (fun _ _ _ h => h) (Or.inl ⟨by rfl, fun w hS => ?_⟩) hH4 ?_
        rotate_left
        · go_simp; try exact rfl
        simp only [Act.put, List.setIfInBounds_toArray, List.set_cons_zero, List.set_cons_succ, List.getElem_toArray, List.getElem_cons_zero, List.getElem_cons_succ]
        refine wpAnyH_ready (rs := [13]) (by kernel_rfl) (by simp) (AllReadyH.cons rfl (fun K hK => ?_) (AllReadyH.nil))
        go_simp
        go_at_call 36
        refine (pick_any R (p + 1 + 1) 2 _ HR.out (by omega) (by omega) (by omega)).mono ?_; rintro r w7 ⟨b, rfl, b0, b1, _, hr, hf⟩
        have b2 := b1 (by omega)
        have bw : IntKind.i64.wrap (a - 1 - b) = a - 1 - b := by rw [IntKind.wrap_i64]; omega
        clear b1
        have HK := hide (HK.out.fr hf HA3.out)
        have MK := hide (MK.out.fr hf HNE.out)
        have HR := hide hr
        have HF := hide hf
        clear hr hf
        refine hK.out _ _ (fr_new hH4 (Nat.le_of_eq hR'.out.symm) HF.out) (fun hH5 => ?_)
        clear hK K
        try simp only [Act.put, List.setIfInBounds_toArray, List.set_cons_zero, List.set_cons_succ]
        refine wpAnyH_take (i := 14) (v := ?_) rfl (by kernel_rfl) (by kernel_rfl) (by kernel_rfl) (fun _ _ _ h => h) (Or.inl ⟨by rfl, fun w hS => ?_⟩) hH5 ?_
        rotate_left
        · go_simp; try exact rfl
        simp only [Act.put, List.setIfInBounds_toArray, List.set_cons_zero, List.set_cons_succ, List.getElem_toArray, List.getElem_cons_zero, List.getElem_cons_succ]
        refine wpAnyH_take (i := 15) (v := ?_) rfl (by kernel_rfl) (by kernel_rfl) (by kernel_rfl) (fun _ _ _ h => h) (Or.inl ⟨by rfl, fun w hS => ?_⟩) hH5 ?_
        rotate_left
        · go_simp; try exact rfl
        simp only [Act.put, List.setIfInBounds_toArray, List.set_cons_zero, List.set_cons_succ, List.getElem_toArray, List.getElem_cons_zero, List.getElem_cons_succ]
        refine wpAnyH_take (i := 16) (v := ?_) rfl (by kernel_rfl) (by kernel_rfl) (by kernel_rfl) (fun _ _ _ h => h) (Or.inl ⟨by rfl, fun w hS => ?_⟩) hH5 ?_
        rotate_left
        · go_simp; try exact rfl
        simp only [Act.put, List.setIfInBounds_toArray, List.set_cons_zero, List.set_cons_succ, List.getElem_toArray, List.getElem_cons_zero, List.getElem_cons_succ]
        refine wpAnyH_take (i := 17) (v := ?_) rfl (by kernel_rfl) (by kernel_rfl) (by kernel_rfl) (fun _ _ _ h => h) (Or.inl ⟨by rfl, fun w hS => ?_⟩) hH5 ?_
        rotate_left
        · go_simp; try exact rfl
        simp only [Act.put, List.setIfInBounds_toArray, List.set_cons_zero, List.set_cons_succ, List.getElem_toArray, List.getElem_cons_zero, List.getElem_cons_succ]
        refine wpAnyH_done (by kernel_rfl) ?_ _
        go_wp2_with fail
        refine bodyPost_ret (v := .tuple #[.slice A3 n3 n3, .int .i64 (s.size + y), .int .i64 (a - 1 - b)]) (by simp [results, Try.results26, go_sem]) rfl ?_
        exact ⟨A3, n3, _, _, zs3, rfl, h3, by omega, by omega, by omega, by omega, HZ.out, HK.out, hH5⟩
      · go_simp
        go_at_call 36
        refine (pick_any R (p + 1 + 1) 2 _ HR.out (by omega) (by omega) (by omega)).mono ?_; rintro r w7 ⟨b, rfl, b0, b1, _, hr, hf⟩
        have b2 := b1 (by omega)
        have bw : IntKind.i64.wrap (a - 1 - b) = a - 1 - b := by rw [IntKind.wrap_i64]; omega
        clear b1
        have HK := hide (HK.out.fr hf HA3.out)
        have MK := hide (MK.out.fr hf HNE.out)
        have HR := hide hr
        have HF := hide hf
        clear hr hf
        refine hK.out _ _ (fr_new hH3 (Nat.le_of_eq hR'.out.symm) HF.out) (fun hH4 => ?_)
        clear hK K
        try simp only [Act.put, List.setIfInBounds_toArray, List.set_cons_zero, List.set_cons_succ]
        refine wpAnyH_take (i := 14) (v := ?_) rfl (by kernel_rfl) (by kernel_rfl) (by kernel_rfl) (fun _ _ _ h => h) (Or.inl ⟨by rfl, fun w hS => ?_⟩) hH4 ?_
        rotate_left
        · go_simp; try exact rfl
        simp only [Act.put, List.setIfInBounds_toArray, List.set_cons_zero, List.set_cons_succ, List.getElem_toArray, List.getElem_cons_zero, List.getElem_cons_succ]
        refine wpAnyH_take (i := 15) (v := ?_) rfl (by kernel_rfl) (by kernel_rfl) (by kernel_rfl) (fun _ _ _ h => h) (Or.inl ⟨by rfl, fun w hS => ?_⟩) hH4 ?_
        rotate_left
        · go_simp; try exact rfl
        simp only [Act.put, List.setIfInBounds_toArray, List.set_cons_zero, List.set_cons_succ, List.getElem_toArray, List.getElem_cons_zero, List.getElem_cons_succ]
        refine wpAnyH_ready (rs := [7]) (by kernel_rfl) (by simp) (AllReadyH.cons rfl (fun K hK => ?_) (AllReadyH.nil))
        obtain ⟨y, hy, y0, y1⟩ := deltas MK.out (show j < 7 by omega)
        replace hy : w7.cell? ⟨wc.heap.size, j, none⟩ = some (.int .i64 y) := hy
        have jw : IntKind.i64.wrap ((s.size : Int) + y) = (s.size : Int) + y := by rw [IntKind.wrap_i64]; omega
        go_simp
        refine hK.out _ _ (hH4) (fun hH5 => ?_)
        clear hK K
        try simp only [Act.put, List.setIfInBounds_toArray, List.set_cons_zero, List.set_cons_succ]
        refine wpAnyH_take (i := 8) (v := ?_) rfl (by kernel_rfl) (by kernel_rfl) (by kernel_rfl) (fun _ _ _ h => h) (Or.inl ⟨by rfl, fun w hS => ?_⟩) hH5 ?_
        rotate_left
        · go_simp; try exact rfl
        simp only [Act.put, List.setIfInBounds_toArray, List.set_cons_zero, List.set_cons_succ, List.getElem_toArray, List.getElem_cons_zero, List.getElem_cons_succ]
        refine wpAnyH_take (i := 16) (v := ?_) rfl (by kernel_rfl) (by kernel_rfl) (by kernel_rfl) (fun _ _ _ h => h) (Or.inl ⟨by rfl, fun w hS => ?_⟩) hH5 ?_
        rotate_left
        · go_simp; try exact rfl
        simp only [Act.put, List.setIfInBounds_toArray, List.set_cons_zero, List.set_cons_succ, List.getElem_toArray, List.getElem_cons_zero, List.getElem_cons_succ]
        refine wpAnyH_take (i := 17) (v := ?_) rfl (by kernel_rfl) (by kernel_rfl) (by kernel_rfl) (fun _ _ _ h => h) (Or.inl ⟨by rfl, fun w hS => ?_⟩) hH5 ?_
        rotate_left
        · go_simp; try exact rfl
        simp only [Act.put, List.setIfInBounds_toArray, List.set_cons_zero, List.set_cons_succ, List.getElem_toArray, List.getElem_cons_zero, List.getElem_cons_succ]
        refine wpAnyH_done (by kernel_rfl) ?_ _
        go_wp2_with fail
        refine bodyPost_ret (v := .tuple #[.slice A3 n3 n3, .int .i64 (s.size + y), .int .i64 (a - 1 - b)]) (by simp [results, Try.results26, go_sem]) rfl ?_
        exact ⟨A3, n3, _, _, zs3, rfl, h3, by omega, by omega, by omega, by omega, HZ.out, HK.out, hH5⟩
  · go_simp
    go_at_call 36
    refine (pick_any R (p) 7 _ HR.out (by omega) (by omega) (by omega)).mono ?_; rintro r w5 ⟨j, rfl, j0, j1, _, hr, hf⟩
    have j2 := j1 (by omega)
    obtain ⟨j, rfl⟩ : ∃ k : Nat, j = (k : Int) := ⟨j.toNat, by omega⟩
    clear j1
    have HK := hide (HK.out.fr hf HA3.out)
    have HR := hide hr
    have HF := hide hf
    clear hr hf
    refine hK.out _ _ (fr_new hH0 (Nat.le_of_eq hR'.out.symm) HF.out) (fun hH1 => ?_)
    clear hK K
    try simp only [Act.put, List.setIfInBounds_toArray, List.set_cons_zero, List.set_cons_succ]
    refine wpAnyH_ready (rs := [3, 10]) (by kernel_rfl) (by simp) (AllReadyH.cons rfl (fun K hK => ?_) (AllReadyH.cons rfl (fun K hK => ?_) (AllReadyH.nil)))
    · go_simp
      refine hK.out _ _ (hH1.alloc hH1.size _) (fun hH2 => ?_)
      clear hK K
      try simp only [Act.put, List.setIfInBounds_toArray, List.set_cons_zero, List.set_cons_succ]
      have HNE := hide (Nat.ne_of_gt HR.out.lt)
      have MK := hide (fresh_of HR.out 3 #[.int .i64 0, .int .i64 0, .int .i64 0, .int .i64 0, .int .i64 1, .int .i64 (-1), .int .i64 130])
      have HK := hide (HK.out.after (bel1 _ (.cells #[.int .i64 0, .int .i64 0, .int .i64 0, .int .i64 0, .int .i64 1, .int .i64 (-1), .int .i64 130] 3)))
      have HR := hide (HR.out.after (bel1 _ (.cells #[.int .i64 0, .int .i64 0, .int .i64 0, .int .i64 0, .int .i64 1, .int .i64 (-1), .int .i64 130] 3)))
      refine wpAnyH_take (i := 6) (v := ?_) rfl (by kernel_rfl) (by kernel_rfl) (by kernel_rfl) (fun _ _ _ h => h) (Or.inl ⟨by rfl, fun w hS => ?_⟩) hH2 ?_
      rotate_left
      · go_simp; try exact rfl
      simp only [Act.put, List.setIfInBounds_toArray, List.set_cons_zero, List.set_cons_succ, List.getElem_toArray, List.getElem_cons_zero, List.getElem_cons_succ]
      refine wpAnyH_ready (rs := [7, 10]) (by kernel_rfl) (by simp) (AllReadyH.cons rfl (fun K hK => ?_) (AllReadyH.cons rfl (fun K hK => ?_) (AllReadyH.nil)))
      · obtain ⟨y, hy, y0, y1⟩ := deltasL (show j < 7 by omega)
        have jw : IntKind.i64.wrap ((s.size : Int) + y) = (s.size : Int) + y := by rw [IntKind.wrap_i64]; omega
        go_simp
        refine hK.out _ _ (hH2) (fun hH3 => ?_)
        clear hK K
        try simp only [Act.put, List.setIfInBounds_toArray, List.set_cons_zero, List.set_cons_succ]
        refine wpAnyH_take (i := 8) (v := ?_) rfl (by kernel_rfl) (by kernel_rfl) (by kernel_rfl) (fun _ _ _ h => h) (Or.inl ⟨by rfl, fun w hS => ?_⟩) hH3 ?_
        rotate_left
        · go_simp; try exact rfl
        simp only [Act.put, List.setIfInBounds_toArray, List.set_cons_zero, List.set_cons_succ, List.getElem_toArray, List.getElem_cons_zero, List.getElem_cons_succ]
        refine wpAnyH_ready (rs := [10]) (by kernel_rfl) (by simp) (AllReadyH.cons rfl (fun K hK => ?_) (AllReadyH.nil))
        go_simp
        go_at_call 36
        refine (pick_any R (p + 1) 5 _ HR.out (by omega) (by omega) (by omega)).mono ?_; rintro r w6 ⟨a, rfl, a0, a1, _, hr, hf⟩
        have a2 := a1 (by omega)
        have aw : IntKind.i64.wrap (a - 1) = a - 1 := by rw [IntKind.wrap_i64]; omega
        clear a1
        have HK := hide (HK.out.fr hf HA3.out)
        have MK := hide (MK.out.fr hf HNE.out)
        have HR := hide hr
        have HF := hide hf
        clear hr hf
        refine hK.out _ _ (fr_new hH3 (Nat.le_of_eq hR'.out.symm) HF.out) (fun hH4 => ?_)
        clear hK K
        try simp only [Act.put, List.setIfInBounds_toArray, List.set_cons_zero, List.set_cons_succ]
        refine wpAnyH_take (i := 11) (v := ?_) rfl (by kernel_rfl) (by kernel_rfl) (by kernel_rfl) (fun _ _ _ h => h) (Or.inl ⟨by rfl, fun w hS => ?_⟩) hH4 ?_
        rotate_left
        · go_simp; try exact rfl
        simp only [Act.put, List.setIfInBounds_toArray, List.set_cons_zero, List.set_cons_succ, List.getElem_toArray, List.getElem_cons_zero, List.getElem_cons_succ]
        refine wpAnyH_ready (rs := [13]) (by kernel_rfl) (by simp) (AllReadyH.cons rfl (fun K hK => ?_) (AllReadyH.nil))
        go_simp
        go_at_call 36
        refine (pick_any R (p + 1 + 1) 2 _ HR.out (by omega) (by omega) (by omega)).mono ?_; rintro r w7 ⟨b, rfl, b0, b1, _, hr, hf⟩
        have b2 := b1 (by omega)
        have bw : IntKind.i64.wrap (a - 1 - b) = a - 1 - b := by rw [IntKind.wrap_i64]; omega
        clear b1
        have HK := hide (HK.out.fr hf HA3.out)
        have MK := hide (MK.out.fr hf HNE.out)
        have HR := hide hr
        have HF := hide hf
        clear hr hf
        refine hK.out _ _ (fr_new hH4 (Nat.le_of_eq hR'.out.symm) HF.out) (fun hH5 => ?_)
        clear hK K
        try simp only [Act.put, List.setIfInBounds_toArray, List.set_cons_zero, List.set_cons_succ]
        refine wpAnyH_take (i := 14) (v := ?_) rfl (by kernel_rfl) (by kernel_rfl) (by kernel_rfl) (fun _ _ _ h => h) (Or.inl ⟨by rfl, fun w hS => ?_⟩) hH5 ?_
        rotate_left
        · go_simp; try exact rfl
        simp only [Act.put, List.setIfInBounds_toArray, List.set_cons_zero, List.set_cons_succ, List.getElem_toArray, List.getElem_cons_zero, List.getElem_cons_succ]
        refine wpAnyH_take (i := 15) (v := ?_) rfl (by kernel_rfl) (by kernel_rfl) (by kernel_rfl) (fun _ _ _ h => h) (Or.inl ⟨by rfl, fun w hS => ?_⟩) hH5 ?_
        rotate_left
        · go_simp; try exact rfl
        simp only [Act.put, List.setIfInBounds_toArray, List.set_cons_zero, List.set_cons_succ, List.getElem_toArray, List.getElem_cons_zero, List.getElem_cons_succ]
        refine wpAnyH_take (i := 16) (v := ?_) rfl (by kernel_rfl) (by kernel_rfl) (by kernel_rfl) (fun _ _ _ h => h) (Or.inl ⟨by rfl, fun w hS => ?_⟩) hH5 ?_
        rotate_left
        · go_simp; try exact rfl
        simp only [Act.put, List.setIfInBounds_toArray, List.set_cons_zero, List.set_cons_succ, List.getElem_toArray, List.getElem_cons_zero, List.getElem_cons_succ]
        refine wpAnyH_take (i := 17) (v := ?_) rfl (by kernel_rfl) (by kernel_rfl) (by kernel_rfl) (fun _ _ _ h => h) (Or.inl ⟨by rfl, fun w hS => ?_⟩) hH5 ?_
        rotate_left
        · go_simp; try exact rfl
        simp only [Act.put, List.setIfInBounds_toArray, List.set_cons_zero, List.set_cons_succ, List.getElem_toArray, List.getElem_cons_zero, List.getElem_cons_succ]
        refine wpAnyH_done (by kernel_rfl) ?_ _
        go_wp2_with fail
        refine bodyPost_ret (v := .tuple #[.slice A3 n3 n3, .int .i64 (s.size + y), .int .i64 (a - 1 - b)]) (by simp [results, Try.results26, go_sem]) rfl ?_
        exact ⟨A3, n3, _, _, zs3, rfl, h3, by omega, by omega, by omega, by omega, HZ.out, HK.out, hH5⟩
      · go_simp
        go_at_call 36
        refine (pick_any R (p + 1) 5 _ HR.out (by omega) (by omega) (by omega)).mono ?_; rintro r w6 ⟨a, rfl, a0, a1, _, hr, hf⟩
        have a2 := a1 (by omega)
        have aw : IntKind.i64.wrap (a - 1) = a - 1 := by rw [IntKind.wrap_i64]; omega
        clear a1
        have HK := hide (HK.out.fr hf HA3.out)
        have MK := hide (MK.out.fr hf HNE.out)
        have HR := hide hr
        have HF := hide hf
        clear hr hf
        refine hK.out _ _ (fr_new hH2 (Nat.le_of_eq hR'.out.symm) HF.out) (fun hH3 => ?_)
        clear hK K
        try simp only [Act.put, List.setIfInBounds_toArray, List.set_cons_zero, List.set_cons_succ]
        refine wpAnyH_take (i := 11) (v := ?_) rfl (by kernel_rfl) (by kernel_rfl) (by kernel_rfl) (fun _ _ _ h => h) (Or.inl ⟨by rfl, fun w hS => ?_⟩) hH3 ?_
        rotate_left
        · go_simp; try exact rfl
        simp only [Act.put, List.setIfInBounds_toArray, List.set_cons_zero, List.set_cons_succ, List.getElem_toArray, List.getElem_cons_zero, List.getElem_cons_succ]
        refine wpAnyH_ready (rs := [7, 13]) (by kernel_rfl) (by simp) (AllReadyH.cons rfl (fun K hK => ?_) (AllReadyH.cons rfl (fun K hK => ?_) (AllReadyH.nil)))
        · obtain ⟨y, hy, y0, y1⟩ := deltas MK.out (show j < 7 by omega)
          replace hy : w6.cell? ⟨w5.heap.size, j, none⟩ = some (.int .i64 y) := hy
          have jw : IntKind.i64.wrap ((s.size : Int) + y) = (s.size : Int) + y := by rw [IntKind.wrap_i64]; omega
          go_simp
          refine hK.out _ _ (hH3) (fun hH4 => ?_)
          clear hK K
          try simp only [Act.put, List.setIfInBounds_toArray, List.set_cons_zero, List.set_cons_succ]
          refine wpAnyH_take (i := 8) (v := ?_) rfl (by kernel_rfl) (by kernel_rfl) (by kernel_rfl) (fun _ _ _ h => h) (Or.inl ⟨by rfl, fun w hS => ?_⟩) hH4 ?_
          rotate_left
          · go_simp; try exact rfl
          simp only [Act.put, List.setIfInBounds_toArray, List.set_cons_zero, List.set_cons_succ, List.getElem_toArray, List.getElem_cons_zero, List.getElem_cons_succ]
          refine wpAnyH_ready (rs := [13]) (by kernel_rfl) (by simp) (AllReadyH.cons rfl (fun K hK => ?_) (AllReadyH.nil))
          go_simp
          go_at_call 36
          refine (pick_any R (p + 1 + 1) 2 _ HR.out (by omega) (by omega) (by omega)).mono ?_; rintro r w7 ⟨b, rfl, b0, b1, _, hr, hf⟩
          have b2 := b1 (by omega)
          have bw : IntKind.i64.wrap (a - 1 - b) = a - 1 - b := by rw [IntKind.wrap_i64]; omega
          clear b1
          have HK := hide (HK.out.fr hf HA3.out)
          have MK := hide (MK.out.fr hf HNE.out)
          have HR := hide hr
          have HF := hide hf
          clear hr hf
          refine hK.out _ _ (fr_new hH4 (Nat.le_of_eq hR'.out.symm) HF.out) (fun hH5 => ?_)
          clear hK K
          try simp only [Act.put, List.setIfInBounds_toArray, List.set_cons_zero, List.set_cons_succ]
          refine wpAnyH_take (i := 14) (v := ?_) rfl (by kernel_rfl) (by kernel_rfl) (by kernel_rfl) (fun _ _ _ h => h) (Or.inl ⟨by rfl, fun w hS => ?_⟩) hH5 ?_
          rotate_left
          · go_simp; try exact rfl
          simp only [Act.put, List.setIfInBounds_toArray, List.set_cons_zero, List.set_cons_succ, List.getElem_toArray, List.getElem_cons_zero, List.getElem_cons_succ]
          refine wpAnyH_take (i := 15) (v := ?_) rfl (by kernel_rfl) (by kernel_rfl) (by kernel_rfl) (fun _ _ _ h => h) (Or.inl ⟨by rfl, fun w hS => ?_⟩) hH5 ?_
          rotate_left
          · go_simp; try exact rfl
          simp only [Act.put, List.setIfInBounds_toArray, List.set_cons_zero, List.set_cons_succ, List.getElem_toArray, List.getElem_cons_zero, List.getElem_cons_succ]
          refine wpAnyH_take (i := 16) (v := ?_) rfl (by kernel_rfl) (by kernel_rfl) (by kernel_rfl) (fun _ _ _ h => h) (Or.inl ⟨by rfl, fun w hS => ?_⟩) hH5 ?_
          rotate_left
          · go_simp; try exact rfl
          simp only [Act.put, List.setIfInBounds_toArray, List.set_cons_zero, List.set_cons_succ, List.getElem_toArray, List.getElem_cons_zero, List.getElem_cons_succ]
          refine wpAnyH_take (i := 17) (v := ?_) rfl (by kernel_rfl) (by kernel_rfl) (by kernel_rfl) (fun _ _ _ h => h) (Or.inl ⟨by rfl, fun w hS => ?_⟩) hH5 ?_
          rotate_left
          · go_simp; try exact rfl
          simp only [Act.put, List.setIfInBounds_toArray, List.set_cons_zero, List.set_cons_succ, List.getElem_toArray, List.getElem_cons_zero, List.getElem_cons_succ]
          refine wpAnyH_done (by kernel_rfl) ?_ _
          go_wp2_with fail
          refine bodyPost_ret (v := .tuple #[.slice A3 n3 n3, .int .i64 (s.size + y), .int .i64 (a - 1 - b)]) (by simp [results, Try.results26, go_sem]) rfl ?_
          exact ⟨A3, n3, _, _, zs3, rfl, h3, by omega, by omega, by omega, by omega, HZ.out, HK.out, hH5⟩
        · go_simp
          go_at_call 36
          refine (pick_any R (p + 1 + 1) 2 _ HR.out (by omega) (by omega) (by omega)).mono ?_; rintro r w7 ⟨b, rfl, b0, b1, _, hr, hf⟩
          have b2 := b1 (by omega)
          have bw : IntKind.i64.wrap (a - 1 - b) = a - 1 - b := by rw [IntKind.wrap_i64]; omega
          clear b1
          have HK := hide (HK.out.fr hf HA3.out)
          have MK := hide (MK.out.fr hf HNE.out)
          have HR := hide hr
          have HF := hide hf
          clear hr hf
          refine hK.out _ _ (fr_new hH3 (Nat.le_of_eq hR'.out.symm) HF.out) (fun hH4 => ?_)
          clear hK K
          try simp only [Act.put, List.setIfInBounds_toArray, List.set_cons_zero, List.set_cons_succ]
          refine wpAnyH_take (i := 14) (v := ?_) rfl (by kernel_rfl) (by kernel_rfl) (by kernel_rfl) (fun _ _ _ h => h) (Or.inl ⟨by rfl, fun w hS => ?_⟩) hH4 ?_
          rotate_left
          · go_simp; try exact rfl
          simp only [Act.put, List.setIfInBounds_toArray, List.set_cons_zero, List.set_cons_succ, List.getElem_toArray, List.getElem_cons_zero, List.getElem_cons_succ]
          refine wpAnyH_take (i := 15) (v := ?_) rfl (by kernel_rfl) (by kernel_rfl) (by kernel_rfl) (fun _ _ _ h => h) (Or.inl ⟨by rfl, fun w hS => ?_⟩) hH4 ?_
          rotate_left
          · go_simp; try exact rfl
          simp only [Act.put, List.setIfInBounds_toArray, List.set_cons_zero, List.set_cons_succ, List.getElem_toArray, List.getElem_cons_zero, List.getElem_cons_succ]
          refine wpAnyH_ready (rs := [7]) (by kernel_rfl) (by simp) (AllReadyH.cons rfl (fun K hK => ?_) (AllReadyH.nil))
          obtain ⟨y, hy, y0, y1⟩ := deltas MK.out (show j < 7 by omega)
          replace hy : w7.cell? ⟨w5.heap.size, j, none⟩ = some (.int .i64 y) := hy
          have jw : IntKind.i64.wrap ((s.size : Int) + y) = (s.size : Int) + y := by rw [IntKind.wrap_i64]; omega
          go_simp
          refine hK.out _ _ (hH4) (fun hH5 => ?_)
          clear hK K
          try simp only [Act.put, List.setIfInBounds_toArray, List.set_cons_zero, List.set_cons_succ]
          refine wpAnyH_take (i := 8) (v := ?_) rfl (by kernel_rfl) (by kernel_rfl) (by kernel_rfl) (fun _ _ _ h => h) (Or.inl ⟨by rfl, fun w hS => ?_⟩) hH5 ?_
          rotate_left
          · go_simp; try exact rfl
          simp only [Act.put, List.setIfInBounds_toArray, List.set_cons_zero, List.set_cons_succ, List.getElem_toArray, List.getElem_cons_zero, List.getElem_cons_succ]
          refine wpAnyH_take (i := 16) (v := ?_) rfl (by kernel_rfl) (by kernel_rfl) (by kernel_rfl) (fun _ _ _ h => h) (Or.inl ⟨by rfl, fun w hS => ?_⟩) hH5 ?_
          rotate_left
          · go_simp; try exact rfl
          simp only [Act.put, List.setIfInBounds_toArray, List.set_cons_zero, List.set_cons_succ, List.getElem_toArray, List.getElem_cons_zero, List.getElem_cons_succ]
          refine wpAnyH_take (i := 17) (v := ?_) rfl (by kernel_rfl) (by kernel_rfl) (by kernel_rfl) (fun _ _ _ h => h) (Or.inl ⟨by rfl, fun w hS => ?_⟩) hH5 ?_
          rotate_left
          · go_simp; try exact rfl
          simp only [Act.put, List.setIfInBounds_toArray, List.set_cons_zero, List.set_cons_succ, List.getElem_toArray, List.getElem_cons_zero, List.getElem_cons_succ]
          refine wpAnyH_done (by kernel_rfl) ?_ _
          go_wp2_with fail
          refine bodyPost_ret (v := .tuple #[.slice A3 n3 n3, .int .i64 (s.size + y), .int .i64 (a - 1 - b)]) (by simp [results, Try.results26, go_sem]) rfl ?_
          exact ⟨A3, n3, _, _, zs3, rfl, h3, by omega, by omega, by omega, by omega, HZ.out, HK.out, hH5⟩
    · go_simp
      go_at_call 36
      refine (pick_any R (p + 1) 5 _ HR.out (by omega) (by omega) (by omega)).mono ?_; rintro r w6 ⟨a, rfl, a0, a1, _, hr, hf⟩
      have a2 := a1 (by omega)
      have aw : IntKind.i64.wrap (a - 1) = a - 1 := by rw [IntKind.wrap_i64]; omega
      clear a1
      have HK := hide (HK.out.fr hf HA3.out)
      have HR := hide hr
      have HF := hide hf
      clear hr hf
      refine hK.out _ _ (fr_new hH1 (Nat.le_of_eq hR'.out.symm) HF.out) (fun hH2 => ?_)
      clear hK K
      try simp only [Act.put, List.setIfInBounds_toArray, List.set_cons_zero, List.set_cons_succ]
      refine wpAnyH_take (i := 11) (v := ?_) rfl (by kernel_rfl) (by kernel_rfl) (by kernel_rfl) (fun _ _ _ h => h) (Or.inl ⟨by rfl, fun w hS => ?_⟩) hH2 ?_
      rotate_left
      · go_simp; try exact rfl
      simp only [Act.put, List.setIfInBounds_toArray, List.set_cons_zero, List.set_cons_succ, List.getElem_toArray, List.getElem_cons_zero, List.getElem_cons_succ]
      refine wpAnyH_ready (rs := [3, 13]) (by kernel_rfl) (by simp) (AllReadyH.cons rfl (fun K hK => ?_) (AllReadyH.cons rfl (fun K hK => ?_) (AllReadyH.nil)))
      · go_simp
        refine hK.out _ _ (hH2.alloc hH2.size _) (fun hH3 => ?_)
        clear hK K
        try simp only [Act.put, List.setIfInBounds_toArray, List.set_cons_zero, List.set_cons_succ]
        have HNE := hide (Nat.ne_of_gt HR.out.lt)
        have MK := hide (fresh_of HR.out 3 #[.int .i64 0, .int .i64 0, .int .i64 0, .int .i64 0, .int .i64 1, .int .i64 (-1), .int .i64 130])
        have HK := hide (HK.out.after (bel1 _ (.cells #[.int .i64 0, .int .i64 0, .int .i64 0, .int .i64 0, .int .i64 1, .int .i64 (-1), .int .i64 130] 3)))
        have HR := hide (HR.out.after (bel1 _ (.cells #[.int .i64 0, .int .i64 0, .int .i64 0, .int .i64 0, .int .i64 1, .int .i64 (-1), .int .i64 130] 3)))
        refine wpAnyH_take (i := 6) (v := ?_) rfl (by kernel_rfl) (by kernel_rfl) (by kernel_rfl) (fun _ _ _ h => h) (Or.inl ⟨by rfl, fun w hS => ?_⟩) hH3 ?_
        rotate_left
        · go_simp; try exact rfl
        simp only [Act.put, List.setIfInBounds_toArray, List.set_cons_zero, List.set_cons_succ, List.getElem_toArray, List.getElem_cons_zero, List.getElem_cons_succ]
        refine wpAnyH_ready (rs := [7, 13]) (by kernel_rfl) (by simp) (AllReadyH.cons rfl (fun K hK => ?_) (AllReadyH.cons rfl (fun K hK => ?_) (AllReadyH.nil)))
        · obtain ⟨y, hy, y0, y1⟩ := deltasL (show j < 7 by omega)
          have jw : IntKind.i64.wrap ((s.size : Int) + y) = (s.size : Int) + y := by rw [IntKind.wrap_i64]; omega
          go_simp
          refine hK.out _ _ (hH3) (fun hH4 => ?_)
          clear hK K
          try simp only [Act.put, List.setIfInBounds_toArray, List.set_cons_zero, List.set_cons_succ]
          refine wpAnyH_take (i := 8) (v := ?_) rfl (by kernel_rfl) (by kernel_rfl) (by kernel_rfl) (fun _ _ _ h => h) (Or.inl ⟨by rfl, fun w hS => ?_⟩) hH4 ?_
          rotate_left
          · go_simp; try exact rfl
          simp only [Act.put, List.setIfInBounds_toArray, List.set_cons_zero, List.set_cons_succ, List.getElem_toArray, List.getElem_cons_zero, List.getElem_cons_succ]
          refine wpAnyH_ready (rs := [13]) (by kernel_rfl) (by simp) (AllReadyH.cons rfl (fun K hK => ?_) (AllReadyH.nil))
          go_simp
          go_at_call 36
          refine (pick_any R (p + 1 + 1) 2 _ HR.out (by omega) (by omega) (by omega)).mono ?_; rintro r w7 ⟨b, rfl, b0, b1, _, hr, hf⟩
          have b2 := b1 (by omega)
          have bw : IntKind.i64.wrap (a - 1 - b) = a - 1 - b := by rw [IntKind.wrap_i64]; omega
          clear b1
          have HK := hide (HK.out.fr hf HA3.out)
          have MK := hide (MK.out.fr hf HNE.out)
          have HR := hide hr
          have HF := hide hf
          clear hr hf
          refine hK.out _ _ (fr_new hH4 (Nat.le_of_eq hR'.out.symm) HF.out) (fun hH5 => ?_)
          clear hK K
          try simp only [Act.put, List.setIfInBounds_toArray, List.set_cons_zero, List.set_cons_succ]
          refine wpAnyH_take (i := 14) (v := ?_) rfl (by kernel_rfl) (by kernel_rfl) (by kernel_rfl) (fun _ _ _ h => h) (Or.inl ⟨by rfl, fun w hS => ?_⟩) hH5 ?_
          rotate_left
          · go_simp; try exact rfl
          simp only [Act.put, List.setIfInBounds_toArray, List.set_cons_zero, List.set_cons_succ, List.getElem_toArray, List.getElem_cons_zero, List.getElem_cons_succ]
          refine wpAnyH_take (i := 15) (v := ?_) rfl (by kernel_rfl) (by kernel_rfl) (by kernel_rfl) (fun _ _ _ h => h) (Or.inl ⟨by rfl, fun w hS => ?_⟩) hH5 ?_
          rotate_left
          · go_simp; try exact rfl
          simp only [Act.put, List.setIfInBounds_toArray, List.set_cons_zero, List.set_cons_succ, List.getElem_toArray, List.getElem_cons_zero, List.getElem_cons_succ]
          refine wpAnyH_take (i := 16) (v := ?_) rfl (by kernel_rfl) (by kernel_rfl) (by kernel_rfl) (fun _ _ _ h => h) (Or.inl ⟨by rfl, fun w hS => ?_⟩) hH5 ?_
          rotate_left
          · go_simp; try exact rfl
          simp only [Act.put, List.setIfInBounds_toArray, List.set_cons_zero, List.set_cons_succ, List.getElem_toArray, List.getElem_cons_zero, List.getElem_cons_succ]
          refine wpAnyH_take (i := 17) (v := ?_) rfl (by kernel_rfl) (by kernel_rfl) (by kernel_rfl) (fun _ _ _ h => h) (Or.inl ⟨by rfl, fun w hS => ?_⟩) hH5 ?_
          rotate_left
          · go_simp; try exact rfl
          simp only [Act.put, List.setIfInBounds_toArray, List.set_cons_zero, List.set_cons_succ, List.getElem_toArray, List.getElem_cons_zero, List.getElem_cons_succ]
          refine wpAnyH_done (by kernel_rfl) ?_ _
          go_wp2_with fail
          refine bodyPost_ret (v := .tuple #[.slice A3 n3 n3, .int .i64 (s.size + y), .int .i64 (a - 1 - b)]) (by simp [results, Try.results26, go_sem]) rfl ?_
          exact ⟨A3, n3, _, _, zs3, rfl, h3, by omega, by omega, by omega, by omega, HZ.out, HK.out, hH5⟩
        · go_simp
          go_at_call 36
          refine (pick_any R (p + 1 + 1) 2 _ HR.out (by omega) (by omega) (by omega)).mono ?_; rintro r w7 ⟨b, rfl, b0, b1, _, hr, hf⟩
          have b2 := b1 (by omega)
          have bw : IntKind.i64.wrap (a - 1 - b) = a - 1 - b := by rw [IntKind.wrap_i64]; omega
          clear b1
          have HK := hide (HK.out.fr hf HA3.out)
          have MK := hide (MK.out.fr hf HNE.out)
          have HR := hide hr
          have HF := hide hf
          clear hr hf
          refine hK.out _ _ (fr_new hH3 (Nat.le_of_eq hR'.out.symm) HF.out) (fun hH4 => ?_)
          clear hK K
          try simp only [Act.put, List.setIfInBounds_toArray, List.set_cons_zero, List.set_cons_succ]
          refine wpAnyH_take (i := 14) (v := ?_) rfl (by kernel_rfl) (by kernel_rfl) (by kernel_rfl) (fun _ _ _ h => h) (Or.inl ⟨by rfl, fun w hS => ?_⟩) hH4 ?_
          rotate_left
          · go_simp; try exact rfl
          simp only [Act.put, List.setIfInBounds_toArray, List.set_cons_zero, List.set_cons_succ, List.getElem_toArray, List.getElem_cons_zero, List.getElem_cons_succ]
          refine wpAnyH_take (i := 15) (v := ?_) rfl (by kernel_rfl) (by kernel_rfl) (by kernel_rfl) (fun _ _ _ h => h) (Or.inl ⟨by rfl, fun w hS => ?_⟩) hH4 ?_
          rotate_left
          · go_simp; try exact rfl
          simp only [Act.put, List.setIfInBounds_toArray, List.set_cons_zero, List.set_cons_succ, List.getElem_toArray, List.getElem_cons_zero, List.getElem_cons_succ]
          refine wpAnyH_ready (rs := [7]) (by kernel_rfl) (by simp) (AllReadyH.cons rfl (fun K hK => ?_) (AllReadyH.nil))
          obtain ⟨y, hy, y0, y1⟩ := deltas MK.out (show j < 7 by omega)
          replace hy : w7.cell? ⟨w6.heap.size, j, none⟩ = some (.int .i64 y) := hy
          have jw : IntKind.i64.wrap ((s.size : Int) + y) = (s.size : Int) + y := by rw [IntKind.wrap_i64]; omega
          go_simp
          refine hK.out _ _ (hH4) (fun hH5 => ?_)
          clear hK K
          try simp only [Act.put, List.setIfInBounds_toArray, List.set_cons_zero, List.set_cons_succ]
          refine wpAnyH_take (i := 8) (v := ?_) rfl (by kernel_rfl) (by kernel_rfl) (by kernel_rfl) (fun _ _ _ h => h) (Or.inl ⟨by rfl, fun w hS => ?_⟩) hH5 ?_
          rotate_left
          · go_simp; try exact rfl
          simp only [Act.put, List.setIfInBounds_toArray, List.set_cons_zero, List.set_cons_succ, List.getElem_toArray, List.getElem_cons_zero, List.getElem_cons_succ]
          refine wpAnyH_take (i := 16) (v := ?_) rfl (by kernel_rfl) (by kernel_rfl) (by kernel_rfl) (fun _ _ _ h => h) (Or.inl ⟨by rfl, fun w hS => ?_⟩) hH5 ?_
          rotate_left
          · go_simp; try exact rfl
          simp only [Act.put, List.setIfInBounds_toArray, List.set_cons_zero, List.set_cons_succ, List.getElem_toArray, List.getElem_cons_zero, List.getElem_cons_succ]
          refine wpAnyH_take (i := 17) (v := ?_) rfl (by kernel_rfl) (by kernel_rfl) (by kernel_rfl) (fun _ _ _ h => h) (Or.inl ⟨by rfl, fun w hS => ?_⟩) hH5 ?_
          rotate_left
          · go_simp; try exact rfl
          simp only [Act.put, List.setIfInBounds_toArray, List.set_cons_zero, List.set_cons_succ, List.getElem_toArray, List.getElem_cons_zero, List.getElem_cons_succ]
          refine wpAnyH_done (by kernel_rfl) ?_ _
          go_wp2_with fail
          refine bodyPost_ret (v := .tuple #[.slice A3 n3 n3, .int .i64 (s.size + y), .int .i64 (a - 1 - b)]) (by simp [results, Try.results26, go_sem]) rfl ?_
          exact ⟨A3, n3, _, _, zs3, rfl, h3, by omega, by omega, by omega, by omega, HZ.out, HK.out, hH5⟩
      · go_simp
        go_at_call 36
        refine (pick_any R (p + 1 + 1) 2 _ HR.out (by omega) (by omega) (by omega)).mono ?_; rintro r w7 ⟨b, rfl, b0, b1, _, hr, hf⟩
        have b2 := b1 (by omega)
        have bw : IntKind.i64.wrap (a - 1 - b) = a - 1 - b := by rw [IntKind.wrap_i64]; omega
        clear b1
        have HK := hide (HK.out.fr hf HA3.out)
        have HR := hide hr
        have HF := hide hf
        clear hr hf
        refine hK.out _ _ (fr_new hH2 (Nat.le_of_eq hR'.out.symm) HF.out) (fun hH3 => ?_)
        clear hK K
        try simp only [Act.put, List.setIfInBounds_toArray, List.set_cons_zero, List.set_cons_succ]
        refine wpAnyH_take (i := 14) (v := ?_) rfl (by kernel_rfl) (by kernel_rfl) (by kernel_rfl) (fun _ _ _ h => h) (Or.inl ⟨by rfl, fun w hS => ?_⟩) hH3 ?_
        rotate_left
        · go_simp; try exact rfl
        simp only [Act.put, List.setIfInBounds_toArray, List.set_cons_zero, List.set_cons_succ, List.getElem_toArray, List.getElem_cons_zero, List.getElem_cons_succ]
        refine wpAnyH_take (i := 15) (v := ?_) rfl (by kernel_rfl) (by kernel_rfl) (by kernel_rfl) (fun _ _ _ h => h) (Or.inl ⟨by rfl, fun w hS => ?_⟩) hH3 ?_
        rotate_left
        · go_simp; try exact rfl
        simp only [Act.put, List.setIfInBounds_toArray, List.set_cons_zero, List.set_cons_succ, List.getElem_toArray, List.getElem_cons_zero, List.getElem_cons_succ]
        refine wpAnyH_ready (rs := [3]) (by kernel_rfl) (by simp) (AllReadyH.cons rfl (fun K hK => ?_) (AllReadyH.nil))
        go_simp
        refine hK.out _ _ (hH3.alloc hH3.size _) (fun hH4 => ?_)
        clear hK K
        try simp only [Act.put, List.setIfInBounds_toArray, List.set_cons_zero, List.set_cons_succ]
        have HNE := hide (Nat.ne_of_gt HR.out.lt)
        have MK := hide (fresh_of HR.out 3 #[.int .i64 0, .int .i64 0, .int .i64 0, .int .i64 0, .int .i64 1, .int .i64 (-1), .int .i64 130])
        have HK := hide (HK.out.after (bel1 _ (.cells #[.int .i64 0, .int .i64 0, .int .i64 0, .int .i64 0, .int .i64 1, .int .i64 (-1), .int .i64 130] 3)))
        have HR := hide (HR.out.after (bel1 _ (.cells #[.int .i64 0, .int .i64 0, .int .i64 0, .int .i64 0, .int .i64 1, .int .i64 (-1), .int .i64 130] 3)))
        refine wpAnyH_take (i := 6) (v := ?_) rfl (by kernel_rfl) (by kernel_rfl) (by kernel_rfl) (fun _ _ _ h => h) (Or.inl ⟨by rfl, fun w hS => ?_⟩) hH4 ?_
        rotate_left
        · go_simp; try exact rfl
        simp only [Act.put, List.setIfInBounds_toArray, List.set_cons_zero, List.set_cons_succ, List.getElem_toArray, List.getElem_cons_zero, List.getElem_cons_succ]
        refine wpAnyH_ready (rs := [7]) (by kernel_rfl) (by simp) (AllReadyH.cons rfl (fun K hK => ?_) (AllReadyH.nil))
        obtain ⟨y, hy, y0, y1⟩ := deltasL (show j < 7 by omega)
        have jw : IntKind.i64.wrap ((s.size : Int) + y) = (s.size : Int) + y := by rw [IntKind.wrap_i64]; omega
        go_simp
        refine hK.out _ _ (hH4) (fun hH5 => ?_)
        clear hK K
        try simp only [Act.put, List.setIfInBounds_toArray, List.set_cons_zero, List.set_cons_succ]
        refine wpAnyH_take (i := 8) (v := ?_) rfl (by kernel_rfl) (by kernel_rfl) (by kernel_rfl) (fun _ _ _ h => h) (Or.inl ⟨by rfl, fun w hS => ?_⟩) hH5 ?_
        rotate_left
        · go_simp; try exact rfl
        simp only [Act.put, List.setIfInBounds_toArray, List.set_cons_zero, List.set_cons_succ, List.getElem_toArray, List.getElem_cons_zero, List.getElem_cons_succ]
        refine wpAnyH_take (i := 16) (v := ?_) rfl (by kernel_rfl) (by kernel_rfl) (by kernel_rfl) (fun _ _ _ h => h) (Or.inl ⟨by rfl, fun w hS => ?_⟩) hH5 ?_
        rotate_left
        · go_simp; try exact rfl
        simp only [Act.put, List.setIfInBounds_toArray, List.set_cons_zero, List.set_cons_succ, List.getElem_toArray, List.getElem_cons_zero, List.getElem_cons_succ]
        refine wpAnyH_take (i := 17) (v := ?_) rfl (by kernel_rfl) (by kernel_rfl) (by kernel_rfl) (fun _ _ _ h => h) (Or.inl ⟨by rfl, fun w hS => ?_⟩) hH5 ?_
        rotate_left
        · go_simp; try exact rfl
        simp only [Act.put, List.setIfInBounds_toArray, List.set_cons_zero, List.set_cons_succ, List.getElem_toArray, List.getElem_cons_zero, List.getElem_cons_succ]
        refine wpAnyH_done (by kernel_rfl) ?_ _
        go_wp2_with fail
        refine bodyPost_ret (v := .tuple #[.slice A3 n3 n3, .int .i64 (s.size + y), .int .i64 (a - 1 - b)]) (by simp [results, Try.results26, go_sem]) rfl ?_
        exact ⟨A3, n3, _, _, zs3, rfl, h3, by omega, by omega, by omega, by omega, HZ.out, HK.out, hH5⟩
end Go.Proofs.Ytjcokbpioiakjaa
