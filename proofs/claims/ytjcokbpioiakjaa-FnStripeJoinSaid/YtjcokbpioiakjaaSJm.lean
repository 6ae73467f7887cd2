/- StripeJoin of the reference: one of its ways. -/
import Derived.Test.YtjcokbpioiakjaaStripeJoin
namespace Go.Proofs.Ytjcokbpioiakjaa
open Go.RowKit
set_option linter.unusedVariables false

set_option maxRecDepth 100000 in
set_option maxHeartbeats 8000000 in
theorem specStripeJoin_m (P : Option Addr) (cc : Nat) (a b c : ByteArray) (size : Int) (w : World) (h : Rd w 1 P 3 ([a, b, c].map Value.string)) (ha : a.size ≤ 1000000000) (hb : b.size ≤ 1000000000) (hc : c.size ≤ 1000000000) (h1 : inR size 1 128 = true) :
    Calls Try.prog 27 #[.slice P 3 cc, .int .i64 size, .int .i64 (-1)] w fun r w' => r = .returned (joinV [a, b, c] size (-1)) ∧ Below w.heap.size w w' := by
  obtain ⟨g, o, rfl, hg, ca, cb, cd⟩ := h.three
  have h2 : inR (-1) (-1) 1 = true := by decide
  clear h
  have H1 := hide h1
  have H2 := hide h2
  have hs : 1 ≤ size ∧ size ≤ 128 := by simp [inR] at h1; omega
  obtain ⟨n, rfl⟩ : ∃ n : Nat, size = (n : Int) := ⟨size.toNat, by omega⟩
  obtain ⟨q, hq⟩ : ∃ q, q = (n + 1) / 2 := ⟨_, rfl⟩
  have hqn : q ≤ n := by omega
  have HQ := hide hq
  have HQI := hide (show ((n : Int) + 1) / 2 = (q : Int) by omega)
  clear h1 h2 hq
  have hn128 : n ≤ 128 := by omega
  obtain ⟨m, hm⟩ : ∃ m : Nat, m = n - q := ⟨_, rfl⟩
  have hmi : (n : Int) - (q : Int) = (m : Int) := by omega
  have jw : IntKind.i64.wrap ((n : Int) - (q : Int)) = (m : Int) := by rw [IntKind.wrap_i64]; omega
  have jw2 : IntKind.i64.wrap (m : Int) = (m : Int) := by rw [IntKind.wrap_i64]; omega
  have hmq : m ≤ q := by have := HQ.out; omega
  have HMI := hide (show ((n : Int) - ((n : Int) + 1) / 2) = (m : Int) by rw [HQI.out]; omega)
  have HG := hide hg
  have CA := hide ca
  have CB := hide cb
  have CD := hide cd
  clear hm
  go_enter Try.func27, Try.ntmps27
  go_wp2_with fail
  refine (l6In_v H1.out _).mono ?_; rintro r w1 ⟨rfl, rfl⟩
  go_wp2_with fail
  refine (l6In_v H2.out _).mono ?_; rintro r w1 ⟨rfl, rfl⟩
  go_wp2_with fail
  refine (l4Half_any n (by omega) _).mono ?_; rintro r w1 ⟨rfl, rfl⟩
  rw [← HQ.out]
  have HJ0 : Hid (((a.size : Int) == (q : Int)) = false → joinV [a, b, c] n (-1) = .tuple #[.string ⟨#[]⟩, .bool false]) := hide (fun e => join_a HQI.out (by decide) e)
  have HJ1 : Hid (((b.size : Int) == (m : Int)) = false → joinV [a, b, c] n (-1) = .tuple #[.string ⟨#[]⟩, .bool false]) := hide (fun e => join_b HMI.out (by decide) e)
  cases e1 : ((a.size : Int) == (q : Int))
  · have HJ := hide (HJ0.out e1)
    go_wp2_with fail
    exact bodyPost_ret (v := .tuple #[.string ⟨#[]⟩, .bool false]) (by simp [results, Try.results27, go_sem]) rfl ⟨by rw [HJ.out], Below.refl _ _⟩
  · cases e2 : ((b.size : Int) == (m : Int))
    · have HJ := hide (HJ1.out e2)
      go_wp2_with fail
      exact bodyPost_ret (v := .tuple #[.string ⟨#[]⟩, .bool false]) (by simp [results, Try.results27, go_sem]) rfl ⟨by rw [HJ.out], Below.refl _ _⟩
    · have z1 := e1
      have z2 := e2
      rw [beq_iff_eq] at z1 z2
      have HJ := hide (show joinV [a, b, c] n (-1) = .tuple #[.string (a ++ b), .bool true] from join_m HQI.out HMI.out H1.out e1 e2)
      clear z1 z2
      go_wp2_with fail
      go_quiet (fail)
      go_wp2_with fail
      exact bodyPost_ret (v := .tuple #[.string (a ++ b), .bool true]) (by simp [results, Try.results27, go_sem]) rfl ⟨by rw [HJ.out], below_drewN (Below.refl _ _) _⟩
end Go.Proofs.Ytjcokbpioiakjaa
