/- Rows of the call's own of records whose slices came in. -/
import Derived.Test.YtpfhdgacjeklaaaHOpen
namespace Go.Proofs.Ytpfhdgacjeklaaa.PLocks
open Go.RowKit Go.Proofs.YtpfhdgacjeklaaaW.PrintWords
set_option linter.unusedVariables false
set_option linter.unusedSimpArgs false
/-- A record with its two slices' addresses and capacities. -/
structure QR where
  r : S25
  A7 : Option Addr
  c7 : Nat
  A8 : Option Addr
  c8 : Nat
def khdr : Kd (Option Addr × Nat × Nat) := Kd.scalar (fun p => .slice p.1 p.2.1 p.2.2) (fun _ => rfl)
def kq : Kd QR := Kd.iso (Kd.pair (Kd.int .i64) (Kd.pair (Kd.int .i64) (Kd.pair (Kd.int .i64) (Kd.pair (Kd.int .i64) (Kd.pair Kd.string (Kd.pair Kd.string (Kd.pair Kd.bool (Kd.pair khdr khdr))))))))
  (fun q : QR => (q.r.f0, q.r.f1, q.r.f2, q.r.f3, q.r.f4, q.r.f5, q.r.f6, (q.A7, q.r.f7.length, q.c7), (q.A8, q.r.f8.length, q.c8)))
def QR.cells (q : QR) : List Value := [.int .i64 q.r.f0, .int .i64 q.r.f1, .int .i64 q.r.f2, .int .i64 q.r.f3, .string q.r.f4, .string q.r.f5, .bool q.r.f6, .slice q.A7 q.r.f7.length q.c7, .slice q.A8 q.r.f8.length q.c8]
theorem kq_M (w : World) (base : Nat) (ok : Nat → Prop) (q : QR) : kq.M w base ok q q.cells :=
  ⟨[.int .i64 q.r.f0], _, rfl, rfl, ⟨[.int .i64 q.r.f1], _, rfl, rfl, ⟨[.int .i64 q.r.f2], _, rfl, rfl, ⟨[.int .i64 q.r.f3], _, rfl, rfl, ⟨[.string q.r.f4], _, rfl, rfl, ⟨[.string q.r.f5], _, rfl, rfl, ⟨[.bool q.r.f6], _, rfl, rfl, ⟨[.slice q.A7 q.r.f7.length q.c7], [.slice q.A8 q.r.f8.length q.c8], rfl, rfl, rfl⟩⟩⟩⟩⟩⟩⟩⟩
theorem kq_open {w : World} {q : QR} {cs : List Value} (h : kq.K w q cs) : cs = q.cells := by
  obtain ⟨c0, t0, rfl, h0, ⟨c1, t1, rfl, h1, ⟨c2, t2, rfl, h2, ⟨c3, t3, rfl, h3, ⟨c4, t4, rfl, h4, ⟨c5, t5, rfl, h5, ⟨c6, t6, rfl, h6, ⟨c7, t7, rfl, h7, h8⟩⟩⟩⟩⟩⟩⟩⟩ := h
  obtain rfl : c0 = _ := h0
  obtain rfl : c1 = _ := h1
  obtain rfl : c2 = _ := h2
  obtain rfl : c3 = _ := h3
  obtain rfl : c4 = _ := h4
  obtain rfl : c5 = _ := h5
  obtain rfl : c6 = _ := h6
  obtain rfl : c7 = _ := h7
  obtain rfl : t7 = _ := h8
  rfl
/-- What its slices hold. -/
def QR.Holds (q : QR) (w : World) : Prop := q.r.f7.length ≤ q.c7 ∧ Kd.string.C w q.A7 q.r.f7.length q.r.f7 ∧ q.r.f8.length ≤ q.c8 ∧ k62.C w q.A8 q.r.f8.length q.r.f8
theorem QR.Holds.below {q : QR} {w w1 : World} (h : q.Holds w) (hb : Below w.heap.size w w1) : q.Holds w1 := ⟨h.1, Kd.C_below h.2.1 hb, h.2.2.1, Kd.C_below h.2.2.2 hb⟩
theorem kq_K {w : World} {q : QR} (h : q.Holds w) : k25.K w q.r q.cells := k25_mk w q.r h.1 h.2.1 h.2.2.1 h.2.2.2
/-- A row of such records is read as a row of records. -/
theorem kq_C {w : World} {A : Option Addr} {n : Nat} {qs : List QR} (h : kq.C w A n qs) (hq : ∀ q, q ∈ qs → q.Holds w) : k25.C w A n (qs.map (·.r)) := by
  refine ⟨by rw [List.length_map]; exact h.1, h.2.1, fun hn => ?_⟩
  obtain ⟨ad, e, hc⟩ := h.2.2 hn
  refine ⟨ad, e, fun j p hj => ?_⟩
  rw [List.getElem?_map, Option.map_eq_some_iff] at hj
  obtain ⟨q, hjq, rfl⟩ := hj
  obtain ⟨c, hl, hk, hcell⟩ := hc j q hjq
  obtain rfl := kq_open hk
  exact ⟨_, rfl, kq_K (hq q (List.mem_of_getElem? hjq)), hcell⟩
end Go.Proofs.Ytpfhdgacjeklaaa.PLocks
