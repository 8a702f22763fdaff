/-
  The walk of the law PipeSinks: it returns true and leaves what was there as it was. Condition: the bytes handed in and the offers are at most 1048576 together.
-/
import Derived.Test.YtpphhnfpingghaaPipeAwake
namespace Go.Proofs.Ytpphhnfpingghaa.Sinks
open Go.RowKit Go.Proofs.YtpphhnfpingghaaW.PrintWords Go.Proofs.YtpphhnfpingghaaW.PrintLast Go.Proofs.YtpphhnfpingghaaW.PrintMore Go.Proofs.Ytpphhnfpingghaa.Pipe
attribute [local go_sem] max2_int min2_int max_two min_two max_three min_three max_four min_four
set_option linter.unusedVariables false
set_option linter.unusedSimpArgs false

structure S31 where
  f0 : List Int
  f1 : Int
def z31 : S31 := ⟨[], 0⟩
def k31 : Kd S31 := Kd.iso (Kd.pair (Kd.slice 5 (Kd.int .u8)) (Kd.int .i64)) (fun x : S31 => (x.f0, x.f1))
theorem k31_open {w : World} {x : S31} {cs : List Value} (h : k31.K w x cs) : ∃ A0 c0, cs = [.slice A0 x.f0.length c0, .int .i64 x.f1] ∧ x.f0.length ≤ c0 ∧ (Kd.int .u8).C w A0 x.f0.length x.f0 := by
  obtain ⟨_, _, rfl, ⟨A0, c0, rfl, l0, g0⟩, rfl⟩ := h
  exact ⟨A0, c0, rfl, l0, g0⟩
def rd_T31 (xs : List S31) (i : Int) : S31 := xs.getD i.toNat z31
theorem at_T31 {w : World} {A : Option Addr} {n : Nat} {xs : List S31} (h : Kd.C k31 w A n xs) (i : Int) (h0 : 0 ≤ i) (h1 : i < n) : ∃ ad A0 c0, A = some ad ∧ w.cell? (ad.add (i.toNat * 2)) = some (.slice A0 (rd_T31 xs i).f0.length c0) ∧ w.cell? ⟨(ad.add (i.toNat * 2)).block, (ad.add (i.toNat * 2)).off + 1, none⟩ = some (.int .i64 (rd_T31 xs i).f1) ∧ (rd_T31 xs i).f0.length ≤ c0 ∧ (Kd.int .u8).C w A0 (rd_T31 xs i).f0.length (rd_T31 xs i).f0 := by
  obtain ⟨ad, c, e, _, hK, hc0⟩ := Kd.C_get h z31 i h0 h1
  have hc : ∀ j u, c[j]? = some u → w.cell? (ad.add (i.toNat * 2 + j)) = some u := hc0
  obtain ⟨A0, c0, rfl, l0, g0⟩ := k31_open hK
  exact ⟨ad, A0, c0, e, hc 0 _ rfl, by rw [← add_field _ _ 1 (by omega)]; exact hc 1 _ rfl, l0, g0⟩

def tot : List S31 → Nat
  | [] => 0
  | x :: r => x.f0.length + tot r
theorem tot_drop (l : List S31) (i : Nat) (h : i < l.length) : tot (l.drop i) = (l.getD i z31).f0.length + tot (l.drop (i + 1)) := by
  rw [List.drop_eq_getElem_cons h, tot, List.getD_eq_getElem?_getD, List.getElem?_eq_getElem h, Option.getD_some]

/-- What one offer does. -/
def Does (p : List Int) (n : Int) (got : List Int) (off : Int) (fl : Bool) (got2 : List Int) (off2 : Int) (fl2 : Bool) (m : Int) : Prop :=
  (fl = true ∧ got2 = got ∧ off2 = off ∧ fl2 = true ∧ m = 0) ∨ (fl = false ∧ n < 0 ∧ got2 = got ∧ off2 = off ∧ fl2 = true ∧ m = 0) ∨
  (fl = false ∧ 0 ≤ n ∧ got2 = got ++ p.take m.toNat ∧ off2 = off + 1 ∧ fl2 = false ∧ (n ≤ p.length → m = n) ∧ (p.length < n → m = p.length))

theorem take_all (w0 w : World) (base g : Nat) (M : Nat → Prop) (got : List Int) (off : Int) (fl : Bool) (A : Option Addr) (c : Nat) (p : List Int) (n : Int) (got2 : List Int) (off2 : Int) (fl2 : Bool) (m : Int) (hS : Sk w base g M got off fl) (hg : M g) (hMb : ∀ k, M k → base ≤ k) (hB : Below base w0 w) (hbs : base ≤ w.heap.size)
    (hp : Kd.C (Kd.int .u8) w A p.length p) (hA : ∀ ad, A = some ad → 0 < p.length → ad.block ≠ g) (hc : p.length ≤ c) (hoff : 0 ≤ off ∧ off ≤ 9000000000000000000) (hlen : got.length + p.length ≤ 140737488355328)
    (hd : Does p n got off fl got2 off2 fl2 m) :
    Calls Try.prog 15 #[.pointer (some ⟨g, 0, none⟩), .slice A p.length c, .int .i64 n] w fun e w' => e = .returned (.int .i64 m) ∧
      Sk w' base g (fun k => M k ∨ w.heap.size ≤ k) got2 off2 fl2 ∧ Kept w w' M ∧ Below base w0 w' := by
  rcases hd with ⟨rfl, rfl, rfl, rfl, rfl⟩ | ⟨rfl, hn, rfl, rfl, rfl, rfl⟩ | ⟨rfl, hn, rfl, rfl, rfl, h1, h2⟩
  · refine (take_stopped w base g M _ _ A p.length c n hS).mono ?_
    rintro e w' ⟨rfl, rfl⟩
    exact ⟨rfl, hS.mono (fun k hk _ => .inl hk), Kept.refl _ _, hB⟩
  · refine (take_fails w0 w base g M _ _ A p.length c n hS hg hMb hB hn).mono ?_
    rintro e w' ⟨rfl, hs, hk, hb⟩
    exact ⟨rfl, hs.mono (fun k hk _ => .inl hk), hk, hb⟩
  · exact take_more w0 w base g M got off A c p n m hS hg hMb hB hbs hp hA hc hn hoff hlen ⟨h1, h2⟩
end Go.Proofs.Ytpphhnfpingghaa.Sinks
