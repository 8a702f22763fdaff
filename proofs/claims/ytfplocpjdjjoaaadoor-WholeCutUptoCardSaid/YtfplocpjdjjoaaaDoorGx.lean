/-
  A context that markup leads to is in form, says ctx.Form.
  A context that markup leads to is in form, says ctx.Form.
  Conditions: as each theorem says.
-/
import Derived.Test.YtfplocpjdjjoaaaDoorGu
import Derived.Test.YtfplocpjdjjoaaaDoorGv
import Derived.Test.YtfplocpjdjjoaaaDoorGw
import Derived.Test.YtfplocpjdjjoaaaDoorGa
namespace Go.Proofs.YtfplocpjdjjoaaaDoor.Ctxs
open Go Go.RowKit Go.Proofs.YtfplocpjdjjoaaaDoor.Trail Go.Proofs.YtfplocpjdjjoaaaDoorW.PrintWords
set_option linter.unusedVariables false
set_option linter.unusedSimpArgs false
theorem formValue0_at {v v2 : Array Value} (el qu ak : Nat) (en : Bool)  (hq : qu = 0 ∨ qu = 34 ∨ qu = 39) (ha : ak = 0 ∨ ak = 4) (hv : v = cxs { st := 8, el := el, en := en, ak := ak, qu := qu }) (hv2 : v2 = cxs { st := 8, el := el, en := en }) (w : World) : Calls Tryd.prog 31 #[.agg v, .agg v2] w fun e w' => e = .returned (.bool true) ∧ Below w.heap.size w w' := hv ▸ hv2 ▸ formValue0 el qu ak en  hq ha w
theorem formValue1_at {v v2 : Array Value} (el qu pa : Nat) (en : Bool)  (hq : qu = 0 ∨ qu = 34 ∨ qu = 39) (hp : pa ≠ 1) (hv : v = cxs { st := 8, el := el, en := en, ak := 1, qu := qu, pa := pa }) (hv2 : v2 = cxs { st := 8, el := el, en := en }) (w : World) : Calls Tryd.prog 31 #[.agg v, .agg v2] w fun e w' => e = .returned (.bool true) ∧ Below w.heap.size w w' := hv ▸ hv2 ▸ formValue1 el qu pa en  hq hp w
theorem formValue2_at {v v2 : Array Value} (el qu  : Nat) (en : Bool) (nm : List Nat) (hq : qu = 0 ∨ qu = 34 ∨ qu = 39) (hl : Low nm) (h1 : 1 ≤ nm.length) (h2 : nm.length ≤ 16) (hv : v = cxs { st := 8, el := el, en := en, ak := 1, qu := qu, pa := 1, nm := nm }) (hv2 : v2 = cxs { st := 8, el := el, en := en }) (w : World) : Calls Tryd.prog 31 #[.agg v, .agg v2] w fun e w' => e = .returned (.bool true) ∧ Below w.heap.size w w' := hv ▸ hv2 ▸ formValue2 el qu  en nm hq hl h1 h2 w
theorem formValue3_at {v v2 : Array Value} (el qu su : Nat) (en : Bool) (es : Bool) (hq : qu = 0 ∨ qu = 34 ∨ qu = 39) (hs : True) (he : es = false ∨ su = 1 ∨ su = 2) (hv : v = cxs { st := 8, el := el, en := en, ak := 2, qu := qu, su := su, es := es }) (hv2 : v2 = cxs { st := 8, el := el, en := en }) (w : World) : Calls Tryd.prog 31 #[.agg v, .agg v2] w fun e w' => e = .returned (.bool true) ∧ Below w.heap.size w w' := hv ▸ hv2 ▸ formValue3 el qu su en es hq hs he w
theorem formValue4_at {v v2 : Array Value} (el qu su : Nat) (en : Bool) (es : Bool) (hq : qu = 0 ∨ qu = 34 ∨ qu = 39) (hs : su ≠ 4) (he : es = false ∨ su = 1 ∨ su = 2) (hv : v = cxs { st := 8, el := el, en := en, ak := 3, qu := qu, su := su, es := es }) (hv2 : v2 = cxs { st := 8, el := el, en := en }) (w : World) : Calls Tryd.prog 31 #[.agg v, .agg v2] w fun e w' => e = .returned (.bool true) ∧ Below w.heap.size w w' := hv ▸ hv2 ▸ formValue4 el qu su en es hq hs he w
set_option maxHeartbeats 4000000 in
set_option maxRecDepth 100000 in
theorem formV0 (el qu : Nat) (ak : Nat) (en : Bool) (h4 : el ≤ 4) (he : en = true → el = 0) (hq : qu = 0 ∨ qu = 34 ∨ qu = 39) (ha : ak = 0 ∨ ak = 4) (w : World) : Calls Tryd.prog 9 #[.agg (cxs { st := 8, el := el, en := en, ak := ak, qu := qu })] w fun e w' => e = .returned (.bool true) ∧ Below w.heap.size w w' := by
  have hu33 := Tryd.underlying33
  have hb0 : bs [] = (⟨#[]⟩ : ByteArray) := rfl
  have hen : (en = false) ∨ (en = true ∧ el = 0) := by
    cases en
    · exact .inl rfl
    · exact .inr ⟨rfl, he rfl⟩
  have h4' : (el : Int) ≤ 4 := by omega
  have HQ := Aside0.mk hq
  clear he h4 hq
  have ha' : (ak : Int) ≤ 4 := by omega
  have HA := Aside0.mk ha
  clear ha
  simp only [cxs, hb0]
  clear hb0
  rcases hen with rfl | ⟨rfl, rfl⟩
  · go_enter Tryd.func9, Tryd.ntmps9
    go_wp2_with (go_at_call 31; (with_reducible refine (formValue0_at el qu ak false HQ.out HA.out ?hv ?hv2 _).mono ?_); (case hv => rfl); (case hv2 => rfl); rintro e w1 ⟨rfl, hb⟩; have HB1 := Aside0.mk (below_step ((((Below.refl _ _).alloc (Nat.le_refl _) _).alloc (by simp) _).alloc (by simp; omega) _) hb); clear hb)
    clear hu33
    go_ret
    exact ⟨rfl, HB1.out⟩
  · go_enter Tryd.func9, Tryd.ntmps9
    go_wp2_with (go_at_call 31; (with_reducible refine (formValue0_at 0 qu ak true HQ.out HA.out ?hv ?hv2 _).mono ?_); (case hv => rfl); (case hv2 => rfl); rintro e w1 ⟨rfl, hb⟩; have HB1 := Aside0.mk (below_step ((((Below.refl _ _).alloc (Nat.le_refl _) _).alloc (by simp) _).alloc (by simp; omega) _) hb); clear hb)
    clear hu33
    go_ret
    exact ⟨rfl, HB1.out⟩
set_option maxHeartbeats 4000000 in
set_option maxRecDepth 100000 in
theorem formV1 (el qu : Nat) (pa : Nat) (en : Bool) (h4 : el ≤ 4) (he : en = true → el = 0) (hq : qu = 0 ∨ qu = 34 ∨ qu = 39) (hp : pa ≠ 1) (hp5 : pa ≤ 5) (w : World) : Calls Tryd.prog 9 #[.agg (cxs { st := 8, el := el, en := en, ak := 1, qu := qu, pa := pa })] w fun e w' => e = .returned (.bool true) ∧ Below w.heap.size w w' := by
  have hu33 := Tryd.underlying33
  have hb0 : bs [] = (⟨#[]⟩ : ByteArray) := rfl
  have hen : (en = false) ∨ (en = true ∧ el = 0) := by
    cases en
    · exact .inl rfl
    · exact .inr ⟨rfl, he rfl⟩
  have h4' : (el : Int) ≤ 4 := by omega
  have HQ := Aside0.mk hq
  clear he h4 hq
  have hp' : (pa : Int) ≤ 5 := by omega
  clear hp5
  have HA := Aside0.mk hp
  clear hp
  simp only [cxs, hb0]
  clear hb0
  rcases hen with rfl | ⟨rfl, rfl⟩
  · go_enter Tryd.func9, Tryd.ntmps9
    go_wp2_with (go_at_call 31; (with_reducible refine (formValue1_at el qu pa false HQ.out HA.out ?hv ?hv2 _).mono ?_); (case hv => rfl); (case hv2 => rfl); rintro e w1 ⟨rfl, hb⟩; have HB1 := Aside0.mk (below_step ((((Below.refl _ _).alloc (Nat.le_refl _) _).alloc (by simp) _).alloc (by simp; omega) _) hb); clear hb)
    clear hu33
    go_ret
    exact ⟨rfl, HB1.out⟩
  · go_enter Tryd.func9, Tryd.ntmps9
    go_wp2_with (go_at_call 31; (with_reducible refine (formValue1_at 0 qu pa true HQ.out HA.out ?hv ?hv2 _).mono ?_); (case hv => rfl); (case hv2 => rfl); rintro e w1 ⟨rfl, hb⟩; have HB1 := Aside0.mk (below_step ((((Below.refl _ _).alloc (Nat.le_refl _) _).alloc (by simp) _).alloc (by simp; omega) _) hb); clear hb)
    clear hu33
    go_ret
    exact ⟨rfl, HB1.out⟩
set_option maxHeartbeats 4000000 in
set_option maxRecDepth 100000 in
theorem formV2 (el qu : Nat) (en : Bool) (h4 : el ≤ 4) (he : en = true → el = 0) (hq : qu = 0 ∨ qu = 34 ∨ qu = 39) (nm : List Nat) (hl : Low nm) (h1 : 1 ≤ nm.length) (h2 : nm.length ≤ 16) (w : World) : Calls Tryd.prog 9 #[.agg (cxs { st := 8, el := el, en := en, ak := 1, qu := qu, pa := 1, nm := nm })] w fun e w' => e = .returned (.bool true) ∧ Below w.heap.size w w' := by
  have hu33 := Tryd.underlying33
  have hb0 : bs [] = (⟨#[]⟩ : ByteArray) := rfl
  have hen : (en = false) ∨ (en = true ∧ el = 0) := by
    cases en
    · exact .inl rfl
    · exact .inr ⟨rfl, he rfl⟩
  have h4' : (el : Int) ≤ 4 := by omega
  have HQ := Aside0.mk hq
  clear he h4 hq
  have HL := Aside0.mk hl
  clear hl
  have H1 := Aside0.mk h1
  clear h1
  have H2 := Aside0.mk h2
  clear h2
  simp only [cxs, hb0]
  clear hb0
  rcases hen with rfl | ⟨rfl, rfl⟩
  · go_enter Tryd.func9, Tryd.ntmps9
    go_wp2_with (go_at_call 31; (with_reducible refine (formValue2_at el qu false nm HQ.out HL.out H1.out H2.out ?hv ?hv2 _).mono ?_); (case hv => rfl); (case hv2 => rfl); rintro e w1 ⟨rfl, hb⟩; have HB1 := Aside0.mk (below_step ((((Below.refl _ _).alloc (Nat.le_refl _) _).alloc (by simp) _).alloc (by simp; omega) _) hb); clear hb)
    clear hu33
    go_ret
    exact ⟨rfl, HB1.out⟩
  · go_enter Tryd.func9, Tryd.ntmps9
    go_wp2_with (go_at_call 31; (with_reducible refine (formValue2_at 0 qu true nm HQ.out HL.out H1.out H2.out ?hv ?hv2 _).mono ?_); (case hv => rfl); (case hv2 => rfl); rintro e w1 ⟨rfl, hb⟩; have HB1 := Aside0.mk (below_step ((((Below.refl _ _).alloc (Nat.le_refl _) _).alloc (by simp) _).alloc (by simp; omega) _) hb); clear hb)
    clear hu33
    go_ret
    exact ⟨rfl, HB1.out⟩
set_option maxHeartbeats 4000000 in
set_option maxRecDepth 100000 in
theorem formV3 (el qu : Nat) (su : Nat) (en : Bool) (h4 : el ≤ 4) (he : en = true → el = 0) (hq : qu = 0 ∨ qu = 34 ∨ qu = 39) (es : Bool) (h6 : su ≤ 6) (hs : es = false ∨ su = 1 ∨ su = 2) (w : World) : Calls Tryd.prog 9 #[.agg (cxs { st := 8, el := el, en := en, ak := 2, qu := qu, su := su, es := es })] w fun e w' => e = .returned (.bool true) ∧ Below w.heap.size w w' := by
  have hu33 := Tryd.underlying33
  have hb0 : bs [] = (⟨#[]⟩ : ByteArray) := rfl
  have hen : (en = false) ∨ (en = true ∧ el = 0) := by
    cases en
    · exact .inl rfl
    · exact .inr ⟨rfl, he rfl⟩
  have h4' : (el : Int) ≤ 4 := by omega
  have HQ := Aside0.mk hq
  clear he h4 hq
  have h6' : (su : Int) ≤ 6 := by omega
  clear h6
  have HS := Aside0.mk hs
  clear hs
  simp only [cxs, hb0]
  clear hb0
  rcases hen with rfl | ⟨rfl, rfl⟩
  · go_enter Tryd.func9, Tryd.ntmps9
    go_wp2_with (go_at_call 31; (with_reducible refine (formValue3_at el qu su false es HQ.out trivial HS.out ?hv ?hv2 _).mono ?_); (case hv => rfl); (case hv2 => rfl); rintro e w1 ⟨rfl, hb⟩; have HB1 := Aside0.mk (below_step ((((Below.refl _ _).alloc (Nat.le_refl _) _).alloc (by simp) _).alloc (by simp; omega) _) hb); clear hb)
    clear hu33
    go_ret
    exact ⟨rfl, HB1.out⟩
  · go_enter Tryd.func9, Tryd.ntmps9
    go_wp2_with (go_at_call 31; (with_reducible refine (formValue3_at 0 qu su true es HQ.out trivial HS.out ?hv ?hv2 _).mono ?_); (case hv => rfl); (case hv2 => rfl); rintro e w1 ⟨rfl, hb⟩; have HB1 := Aside0.mk (below_step ((((Below.refl _ _).alloc (Nat.le_refl _) _).alloc (by simp) _).alloc (by simp; omega) _) hb); clear hb)
    clear hu33
    go_ret
    exact ⟨rfl, HB1.out⟩
set_option maxHeartbeats 4000000 in
set_option maxRecDepth 100000 in
theorem formV4 (el qu : Nat) (su : Nat) (en : Bool) (h4 : el ≤ 4) (he : en = true → el = 0) (hq : qu = 0 ∨ qu = 34 ∨ qu = 39) (es : Bool) (h6 : su ≤ 6) (hs4 : su ≠ 4) (hs : es = false ∨ su = 1 ∨ su = 2) (w : World) : Calls Tryd.prog 9 #[.agg (cxs { st := 8, el := el, en := en, ak := 3, qu := qu, su := su, es := es })] w fun e w' => e = .returned (.bool true) ∧ Below w.heap.size w w' := by
  have hu33 := Tryd.underlying33
  have hb0 : bs [] = (⟨#[]⟩ : ByteArray) := rfl
  have hen : (en = false) ∨ (en = true ∧ el = 0) := by
    cases en
    · exact .inl rfl
    · exact .inr ⟨rfl, he rfl⟩
  have h4' : (el : Int) ≤ 4 := by omega
  have HQ := Aside0.mk hq
  clear he h4 hq
  have h6' : (su : Int) ≤ 6 := by omega
  clear h6
  have HS4 := Aside0.mk hs4
  clear hs4
  have HS := Aside0.mk hs
  clear hs
  simp only [cxs, hb0]
  clear hb0
  rcases hen with rfl | ⟨rfl, rfl⟩
  · go_enter Tryd.func9, Tryd.ntmps9
    go_wp2_with (go_at_call 31; (with_reducible refine (formValue4_at el qu su false es HQ.out HS4.out HS.out ?hv ?hv2 _).mono ?_); (case hv => rfl); (case hv2 => rfl); rintro e w1 ⟨rfl, hb⟩; have HB1 := Aside0.mk (below_step ((((Below.refl _ _).alloc (Nat.le_refl _) _).alloc (by simp) _).alloc (by simp; omega) _) hb); clear hb)
    clear hu33
    go_ret
    exact ⟨rfl, HB1.out⟩
  · go_enter Tryd.func9, Tryd.ntmps9
    go_wp2_with (go_at_call 31; (with_reducible refine (formValue4_at 0 qu su true es HQ.out HS4.out HS.out ?hv ?hv2 _).mono ?_); (case hv => rfl); (case hv2 => rfl); rintro e w1 ⟨rfl, hb⟩; have HB1 := Aside0.mk (below_step ((((Below.refl _ _).alloc (Nat.le_refl _) _).alloc (by simp) _).alloc (by simp; omega) _) hb); clear hb)
    clear hu33
    go_ret
    exact ⟨rfl, HB1.out⟩
end Go.Proofs.YtfplocpjdjjoaaaDoor.Ctxs
namespace Go.Proofs.YtfplocpjdjjoaaaDoor.Ctxs
open Go Go.RowKit Go.Proofs.YtfplocpjdjjoaaaDoor.Trail Go.Proofs.YtfplocpjdjjoaaaDoorW.PrintWords
set_option linter.unusedVariables false
set_option linter.unusedSimpArgs false
theorem formRawL_at {v : Array Value} (st : Nat) (el : Nat) (h19 : st ≠ 19) (h1 : el = 1 ∨ el = 2) (hv : v = cxs { st := st, el := el }) (w : World) : Calls Tryd.prog 32 #[.agg v] w fun e w' => e = .returned (.bool true) ∧ Below w.heap.size w w' := hv ▸ formRawL st el h19 h1 w
set_option maxHeartbeats 4000000 in
set_option maxRecDepth 100000 in
theorem formRL (st : Nat) (el : Nat) (h19 : st = 17 ∨ st = 18) (h1 : el = 1 ∨ el = 2) (w : World) : Calls Tryd.prog 9 #[.agg (cxs { st := st, el := el })] w fun e w' => e = .returned (.bool true) ∧ Below w.heap.size w w' := by
  have hu33 := Tryd.underlying33
  have hb0 : bs [] = (⟨#[]⟩ : ByteArray) := rfl
  have h4' : (el : Int) ≤ 4 := by omega
  have H1 := Aside0.mk h1
  clear h1
  simp only [cxs, hb0]
  clear hb0
  rcases h19 with rfl | rfl
  · go_enter Tryd.func9, Tryd.ntmps9
    go_wp2_with (go_at_call 32; (with_reducible refine (formRawL_at 17 el (by decide) H1.out ?hv _).mono ?_); (case hv => rfl); rintro e w1 ⟨rfl, hb⟩; have HB1 := Aside0.mk (below_step ((((Below.refl _ _).alloc (Nat.le_refl _) _).alloc (by simp) _).alloc (by simp; omega) _) hb); clear hb)
    clear hu33
    go_ret
    exact ⟨rfl, HB1.out⟩
  · go_enter Tryd.func9, Tryd.ntmps9
    go_wp2_with (go_at_call 32; (with_reducible refine (formRawL_at 18 el (by decide) H1.out ?hv _).mono ?_); (case hv => rfl); rintro e w1 ⟨rfl, hb⟩; have HB1 := Aside0.mk (below_step ((((Below.refl _ _).alloc (Nat.le_refl _) _).alloc (by simp) _).alloc (by simp; omega) _) hb); clear hb)
    clear hu33
    go_ret
    exact ⟨rfl, HB1.out⟩
theorem formRaw3_at {v : Array Value} (st : Nat) (su : Nat) (es : Bool) (h19 : st ≠ 19) (hs : True) (he : es = false ∨ su = 1 ∨ su = 2) (hv : v = cxs { st := st, el := 3, su := su, es := es }) (w : World) : Calls Tryd.prog 32 #[.agg v] w fun e w' => e = .returned (.bool true) ∧ Below w.heap.size w w' := hv ▸ formRaw3 st su es h19 hs he w
set_option maxHeartbeats 4000000 in
set_option maxRecDepth 100000 in
theorem formR3 (st : Nat) (su : Nat) (es : Bool) (h19 : st = 17 ∨ st = 18) (h6 : su ≤ 6) (hs : True) (he : es = false ∨ su = 1 ∨ su = 2) (w : World) : Calls Tryd.prog 9 #[.agg (cxs { st := st, el := 3, su := su, es := es })] w fun e w' => e = .returned (.bool true) ∧ Below w.heap.size w w' := by
  have hu33 := Tryd.underlying33
  have hb0 : bs [] = (⟨#[]⟩ : ByteArray) := rfl
  have h6' : (su : Int) ≤ 6 := by omega
  clear h6
  have HS := Aside0.mk hs
  clear hs
  have HE := Aside0.mk he
  clear he
  simp only [cxs, hb0]
  clear hb0
  rcases h19 with rfl | rfl
  · go_enter Tryd.func9, Tryd.ntmps9
    go_wp2_with (go_at_call 32; (with_reducible refine (formRaw3_at 17 su es (by decide) HS.out HE.out ?hv _).mono ?_); (case hv => rfl); rintro e w1 ⟨rfl, hb⟩; have HB1 := Aside0.mk (below_step ((((Below.refl _ _).alloc (Nat.le_refl _) _).alloc (by simp) _).alloc (by simp; omega) _) hb); clear hb)
    clear hu33
    go_ret
    exact ⟨rfl, HB1.out⟩
  · go_enter Tryd.func9, Tryd.ntmps9
    go_wp2_with (go_at_call 32; (with_reducible refine (formRaw3_at 18 su es (by decide) HS.out HE.out ?hv _).mono ?_); (case hv => rfl); rintro e w1 ⟨rfl, hb⟩; have HB1 := Aside0.mk (below_step ((((Below.refl _ _).alloc (Nat.le_refl _) _).alloc (by simp) _).alloc (by simp; omega) _) hb); clear hb)
    clear hu33
    go_ret
    exact ⟨rfl, HB1.out⟩
theorem formRaw4_at {v : Array Value} (st : Nat) (su : Nat) (es : Bool) (h19 : st ≠ 19) (hs : su ≠ 4) (he : es = false ∨ su = 1 ∨ su = 2) (hv : v = cxs { st := st, el := 4, su := su, es := es }) (w : World) : Calls Tryd.prog 32 #[.agg v] w fun e w' => e = .returned (.bool true) ∧ Below w.heap.size w w' := hv ▸ formRaw4 st su es h19 hs he w
set_option maxHeartbeats 4000000 in
set_option maxRecDepth 100000 in
theorem formR4 (st : Nat) (su : Nat) (es : Bool) (h19 : st = 17 ∨ st = 18) (h6 : su ≤ 6) (hs : su ≠ 4) (he : es = false ∨ su = 1 ∨ su = 2) (w : World) : Calls Tryd.prog 9 #[.agg (cxs { st := st, el := 4, su := su, es := es })] w fun e w' => e = .returned (.bool true) ∧ Below w.heap.size w w' := by
  have hu33 := Tryd.underlying33
  have hb0 : bs [] = (⟨#[]⟩ : ByteArray) := rfl
  have h6' : (su : Int) ≤ 6 := by omega
  clear h6
  have HS := Aside0.mk hs
  clear hs
  have HE := Aside0.mk he
  clear he
  simp only [cxs, hb0]
  clear hb0
  rcases h19 with rfl | rfl
  · go_enter Tryd.func9, Tryd.ntmps9
    go_wp2_with (go_at_call 32; (with_reducible refine (formRaw4_at 17 su es (by decide) HS.out HE.out ?hv _).mono ?_); (case hv => rfl); rintro e w1 ⟨rfl, hb⟩; have HB1 := Aside0.mk (below_step ((((Below.refl _ _).alloc (Nat.le_refl _) _).alloc (by simp) _).alloc (by simp; omega) _) hb); clear hb)
    clear hu33
    go_ret
    exact ⟨rfl, HB1.out⟩
  · go_enter Tryd.func9, Tryd.ntmps9
    go_wp2_with (go_at_call 32; (with_reducible refine (formRaw4_at 18 su es (by decide) HS.out HE.out ?hv _).mono ?_); (case hv => rfl); rintro e w1 ⟨rfl, hb⟩; have HB1 := Aside0.mk (below_step ((((Below.refl _ _).alloc (Nat.le_refl _) _).alloc (by simp) _).alloc (by simp; omega) _) hb); clear hb)
    clear hu33
    go_ret
    exact ⟨rfl, HB1.out⟩
theorem formRawL19_at {v : Array Value} (el : Nat) (nm : List Nat) (h1 : el = 1 ∨ el = 2) (hn : (bs nm).toList.isPrefixOf (bs (nameOf el)).toList = true) (hv : v = cxs { st := 19, el := el, nm := nm }) (w : World) : Calls Tryd.prog 32 #[.agg v] w fun e w' => e = .returned (.bool true) ∧ Below w.heap.size w w' := hv ▸ formRawL19 el nm h1 hn w
set_option maxHeartbeats 4000000 in
set_option maxRecDepth 100000 in
theorem formRL19 (el : Nat) (nm : List Nat) (h1 : el = 1 ∨ el = 2) (hn : (bs nm).toList.isPrefixOf (bs (nameOf el)).toList = true) (w : World) : Calls Tryd.prog 9 #[.agg (cxs { st := 19, el := el, nm := nm })] w fun e w' => e = .returned (.bool true) ∧ Below w.heap.size w w' := by
  have hu33 := Tryd.underlying33
  have hb0 : bs [] = (⟨#[]⟩ : ByteArray) := rfl
  have h4' : (el : Int) ≤ 4 := by omega
  have H1 := Aside0.mk h1
  clear h1
  have HN := Aside0.mk hn
  clear hn
  simp only [cxs, hb0]
  clear hb0
  all_goals
    go_enter Tryd.func9, Tryd.ntmps9
    go_wp2_with (go_at_call 32; (with_reducible refine (formRawL19_at el nm H1.out HN.out ?hv _).mono ?_); (case hv => rfl); rintro e w1 ⟨rfl, hb⟩; have HB1 := Aside0.mk (below_step ((((Below.refl _ _).alloc (Nat.le_refl _) _).alloc (by simp) _).alloc (by simp; omega) _) hb); clear hb)
    clear hu33
    go_ret
    exact ⟨rfl, HB1.out⟩
theorem formRaw319_at {v : Array Value} (su : Nat) (es : Bool) (nm : List Nat) (hs : True) (he : es = false ∨ su = 1 ∨ su = 2) (hn : (bs nm).toList.isPrefixOf (bs (nameOf 3)).toList = true) (hv : v = cxs { st := 19, el := 3, su := su, es := es, nm := nm }) (w : World) : Calls Tryd.prog 32 #[.agg v] w fun e w' => e = .returned (.bool true) ∧ Below w.heap.size w w' := hv ▸ formRaw319 su es nm hs he hn w
set_option maxHeartbeats 4000000 in
set_option maxRecDepth 100000 in
theorem formR319 (su : Nat) (es : Bool) (nm : List Nat) (h6 : su ≤ 6) (hs : True) (he : es = false ∨ su = 1 ∨ su = 2) (hn : (bs nm).toList.isPrefixOf (bs (nameOf 3)).toList = true) (w : World) : Calls Tryd.prog 9 #[.agg (cxs { st := 19, el := 3, su := su, es := es, nm := nm })] w fun e w' => e = .returned (.bool true) ∧ Below w.heap.size w w' := by
  have hu33 := Tryd.underlying33
  have hb0 : bs [] = (⟨#[]⟩ : ByteArray) := rfl
  have h6' : (su : Int) ≤ 6 := by omega
  clear h6
  have HS := Aside0.mk hs
  clear hs
  have HE := Aside0.mk he
  clear he
  have HN := Aside0.mk hn
  clear hn
  simp only [cxs, hb0]
  clear hb0
  all_goals
    go_enter Tryd.func9, Tryd.ntmps9
    go_wp2_with (go_at_call 32; (with_reducible refine (formRaw319_at su es nm HS.out HE.out HN.out ?hv _).mono ?_); (case hv => rfl); rintro e w1 ⟨rfl, hb⟩; have HB1 := Aside0.mk (below_step ((((Below.refl _ _).alloc (Nat.le_refl _) _).alloc (by simp) _).alloc (by simp; omega) _) hb); clear hb)
    clear hu33
    go_ret
    exact ⟨rfl, HB1.out⟩
theorem formRaw419_at {v : Array Value} (su : Nat) (es : Bool) (nm : List Nat) (hs : su ≠ 4) (he : es = false ∨ su = 1 ∨ su = 2) (hn : (bs nm).toList.isPrefixOf (bs (nameOf 4)).toList = true) (hv : v = cxs { st := 19, el := 4, su := su, es := es, nm := nm }) (w : World) : Calls Tryd.prog 32 #[.agg v] w fun e w' => e = .returned (.bool true) ∧ Below w.heap.size w w' := hv ▸ formRaw419 su es nm hs he hn w
set_option maxHeartbeats 4000000 in
set_option maxRecDepth 100000 in
theorem formR419 (su : Nat) (es : Bool) (nm : List Nat) (h6 : su ≤ 6) (hs : su ≠ 4) (he : es = false ∨ su = 1 ∨ su = 2) (hn : (bs nm).toList.isPrefixOf (bs (nameOf 4)).toList = true) (w : World) : Calls Tryd.prog 9 #[.agg (cxs { st := 19, el := 4, su := su, es := es, nm := nm })] w fun e w' => e = .returned (.bool true) ∧ Below w.heap.size w w' := by
  have hu33 := Tryd.underlying33
  have hb0 : bs [] = (⟨#[]⟩ : ByteArray) := rfl
  have h6' : (su : Int) ≤ 6 := by omega
  clear h6
  have HS := Aside0.mk hs
  clear hs
  have HE := Aside0.mk he
  clear he
  have HN := Aside0.mk hn
  clear hn
  simp only [cxs, hb0]
  clear hb0
  all_goals
    go_enter Tryd.func9, Tryd.ntmps9
    go_wp2_with (go_at_call 32; (with_reducible refine (formRaw419_at su es nm HS.out HE.out HN.out ?hv _).mono ?_); (case hv => rfl); rintro e w1 ⟨rfl, hb⟩; have HB1 := Aside0.mk (below_step ((((Below.refl _ _).alloc (Nat.le_refl _) _).alloc (by simp) _).alloc (by simp; omega) _) hb); clear hb)
    clear hu33
    go_ret
    exact ⟨rfl, HB1.out⟩
theorem es_false {es : Bool} {su : Nat} (h : es = true → su = 1 ∨ su = 2) : es = false ∨ su = 1 ∨ su = 2 := by
  cases es
  · exact .inl rfl
  · exact .inr (h rfl)
/-- **A context that markup leads to is in form.** -/
theorem form_ok (c : Cx) (hi : Inv c) (hl : Low c.nm) (w : World) : Calls Tryd.prog 9 #[.agg (cxs c)] w fun e w' => e = .returned (.bool true) ∧ Below w.heap.size w w' := by
  have ht := hi.top
  have h4 := hi.el4
  have he := hi.en0
  have h0 := hi.flat
  have : (c.st = 0 ∨ c.st = 1 ∨ c.st = 2 ∨ c.st = 11 ∨ c.st = 12 ∨ c.st = 13 ∨ c.st = 14 ∨ c.st = 16) ∨ c.st = 3 ∨ (c.st = 4 ∨ c.st = 9 ∨ c.st = 10) ∨ (c.st = 5 ∨ c.st = 6) ∨ c.st = 7 ∨ c.st = 8 ∨ c.st = 15 ∨ (c.st = 17 ∨ c.st = 18 ∨ c.st = 19) := by omega
  rcases this with e | e | e | e | e | e | e | e
  · rw [h0 e]
    exact formFlat c.st (by omega) w
  · obtain ⟨q, q1, q2⟩ := hi.tagName e
    rw [q]
    exact formTag c.en c.nm hl q1 q2 w
  · rw [hi.inTag e]
    exact formIn c.st c.el c.en e h4 he w
  · obtain ⟨q, q1, q2⟩ := hi.attrName e
    rw [q]
    exact formAttr c.st c.el c.en c.nm e h4 he hl q1 q2 w
  · obtain ⟨q, q1⟩ := hi.behindEq e
    rw [q]
    exact formEq c.el c.ak c.en h4 he q1 w
  · obtain ⟨h1, h2, h3, h5, h6, h7, h8, h9, h10, h11, h12, h13, h14⟩ := hi.val e
    obtain ⟨st, el, en, ak, qu, pa, su, es, da, nm⟩ := c
    dsimp only at *
    subst e; subst h1
    by_cases a1 : ak = 1
    · subst a1
      obtain ⟨s0, s1⟩ := h6 (by omega) (by omega)
      subst s0; subst s1
      by_cases p1 : pa = 1
      · subst p1
        obtain ⟨n1, n2⟩ := h14 rfl
        exact formV2 el qu en h4 he h3 nm hl n1 n2 w
      · obtain rfl := h13 p1
        exact formV1 el qu pa en h4 he h3 p1 h12 w
    · obtain ⟨p0, n0⟩ := h11 a1
      subst p0; subst n0
      by_cases a2 : ak = 2
      · subst a2
        exact formV3 el qu su en h4 he h3 es h5 (es_false h7) w
      · by_cases a3 : ak = 3
        · subst a3
          exact formV4 el qu su en h4 he h3 es h5 (h8 rfl) (es_false h7) w
        · obtain ⟨s0, s1⟩ := h6 a2 a3
          subst s0; subst s1
          exact formV0 el qu ak en h4 he h3 (by omega) w
  · obtain ⟨q, q1⟩ := hi.comment e
    rw [q]
    exact formNote c.da q1 w
  · obtain ⟨h1, h2, h3, h5, h6, h7, h8, h9, k, hk, hnm⟩ := hi.inRaw e
    obtain ⟨st, el, en, ak, qu, pa, su, es, da, nm⟩ := c
    dsimp only at *
    injection h1 with _ _ a1 a2 a3 a4 _ _ a5 _
    subst a1; subst a2; subst a3; subst a4; subst a5
    have hpre : (bs nm).toList.isPrefixOf (bs (nameOf el)).toList = true := by
      rw [bs_list, prefix_bs hl.small (small_name _), hnm]
      exact List.isPrefixOf_iff_prefix.2 (List.take_prefix _ _)
    by_cases s19 : st = 19
    · subst s19
      by_cases e3 : el = 3
      · subst e3; exact formR319 su es nm h3 trivial (es_false h5) hpre w
      · by_cases e4 : el = 4
        · subst e4; exact formR419 su es nm h3 (h7 rfl) (es_false h5) hpre w
        · obtain rfl := h6 (by omega)
          have : es = false := by rcases es_false h5 with q | q | q <;> first | exact q | cases q
          subst this
          exact formRL19 el nm (by omega) hpre w
    · obtain rfl := h8 s19
      by_cases e3 : el = 3
      · subst e3; exact formR3 st su es (by omega) h3 trivial (es_false h5) w
      · by_cases e4 : el = 4
        · subst e4; exact formR4 st su es (by omega) h3 (h7 rfl) (es_false h5) w
        · obtain rfl := h6 (by omega)
          have : es = false := by rcases es_false h5 with q | q | q <;> first | exact q | cases q
          subst this
          exact formRL st el (by omega) (by omega) w
end Go.Proofs.YtfplocpjdjjoaaaDoor.Ctxs
