/-
  How a character is written in a string of JavaScript.
  How a character is written in a string of JavaScript: all of them.
  escape.each, with each of its rules.
  escape.unit: how a character is written in each kind of hole.
  Conditions: as each theorem says.
-/
import Derived.Test.YtfplocpjdjjoaaaDoorDb
namespace Go.Proofs.YtfplocpjdjjoaaaDoor.Cut
open Go Go.RowKit Go.Proofs.YtfplocpjdjjoaaaDoor.Trail Go.Proofs.YtfplocpjdjjoaaaDoor.Ctxs Go.Proofs.YtfplocpjdjjoaaaDoorW.PrintWords
set_option linter.unusedVariables false
set_option linter.unusedSimpArgs false
theorem wrap_u8 (n : Nat) : IntKind.u8.wrap (n : Int) = ((n % 256 : Nat) : Int) := by rw [IntKind.wrap_u8]; omega
theorem wrap_u32 (n : Nat) (h : n < 4294967296) : IntKind.u32.wrap (n : Int) = (n : Int) := by rw [IntKind.wrap_u32]; omega
theorem or_ok : ((List.range 32).all (fun x => bits BinOp.or IntKind.u8 192 (x : Int) == ((192 + x : Nat) : Int)) && (List.range 16).all (fun x => bits BinOp.or IntKind.u8 224 (x : Int) == ((224 + x : Nat) : Int)) && (List.range 8).all (fun x => bits BinOp.or IntKind.u8 240 (x : Int) == ((240 + x : Nat) : Int)) && (List.range 64).all (fun x => bits BinOp.or IntKind.u8 128 (x : Int) == ((128 + x : Nat) : Int)) && (List.range 256).all (fun x => bits BinOp.and IntKind.u8 (x : Int) 63 == ((x % 64 : Nat) : Int))) = true := by kernel_rfl
set_option maxRecDepth 100000 in
theorem or_all : (∀ x : Nat, x < 32 → bits BinOp.or IntKind.u8 192 (x : Int) = ((192 + x : Nat) : Int)) ∧ (∀ x : Nat, x < 16 → bits BinOp.or IntKind.u8 224 (x : Int) = ((224 + x : Nat) : Int)) ∧ (∀ x : Nat, x < 8 → bits BinOp.or IntKind.u8 240 (x : Int) = ((240 + x : Nat) : Int)) ∧ (∀ x : Nat, x < 64 → bits BinOp.or IntKind.u8 128 (x : Int) = ((128 + x : Nat) : Int)) ∧ (∀ x : Nat, x < 256 → bits BinOp.and IntKind.u8 (x : Int) 63 = ((x % 64 : Nat) : Int)) := by
  have h := or_ok
  obtain ⟨h, h5⟩ := Bool.and_eq_true_iff.1 h
  obtain ⟨h, h4⟩ := Bool.and_eq_true_iff.1 h
  obtain ⟨h, h3⟩ := Bool.and_eq_true_iff.1 h
  obtain ⟨h1, h2⟩ := Bool.and_eq_true_iff.1 h
  exact ⟨fun x hx => beq_iff_eq.1 (List.all_eq_true.1 h1 x (List.mem_range.2 hx)), fun x hx => beq_iff_eq.1 (List.all_eq_true.1 h2 x (List.mem_range.2 hx)), fun x hx => beq_iff_eq.1 (List.all_eq_true.1 h3 x (List.mem_range.2 hx)), fun x hx => beq_iff_eq.1 (List.all_eq_true.1 h4 x (List.mem_range.2 hx)), fun x hx => beq_iff_eq.1 (List.all_eq_true.1 h5 x (List.mem_range.2 hx))⟩
set_option maxHeartbeats 4000000 in
set_option maxRecDepth 100000 in
theorem rune_two (a b r : Nat) (h1a : 194 ≤ a) (h1b : a ≤ 223) (h2a : 128 ≤ b) (h2b : b ≤ 191) (hr : r = (a % 32) * 64 + b % 64) (w : World) : Calls Tryd.prog 130 #[.slice none 0 0, .int .i32 (r : Int)] w (Unt [a, b] w) := by
  obtain ⟨o1, o2, o3, o4, o5⟩ := or_all
  have f0 := wrap_u32 r (by omega)
  obtain ⟨qa, hqa⟩ : ∃ qa : Nat, qa = r / 64 := ⟨_, rfl⟩
  obtain ⟨za, hza⟩ : ∃ za : Nat, za = qa % 256 := ⟨_, rfl⟩
  have e_a : (r : Int) / 64 = (qa : Int) := by omega
  have g_a : IntKind.u8.wrap (qa : Int) = (za : Int) := by rw [hza]; exact wrap_u8 _
  have j_a : bits BinOp.or IntKind.u8 192 (za : Int) = (a : Int) := by rw [o1 _ (by omega)]; congr 1; omega
  obtain ⟨zz, hzz⟩ : ∃ zz : Nat, zz = r % 256 := ⟨_, rfl⟩
  obtain ⟨yb, hyb⟩ : ∃ yb : Nat, yb = b - 128 := ⟨_, rfl⟩
  have g_b : IntKind.u8.wrap (r : Int) = (zz : Int) := by rw [hzz]; exact wrap_u8 r
  have k_b : bits BinOp.and IntKind.u8 (zz : Int) 63 = (yb : Int) := by rw [o5 _ (by omega)]; congr 1; omega
  have j_b : bits BinOp.or IntKind.u8 128 (yb : Int) = (b : Int) := by rw [o4 _ (by omega)]; congr 1; omega
  have d0 : decide ((r : Int) ≤ 2047) = true := decide_eq_true (by omega)
  clear o1 o2 o3 o4 o5 hr hqa hza hzz hyb
  go_enter Tryd.func130, Tryd.ntmps130
  go_wp2_with ((with_reducible refine gate_builtin (b := .append) (xs := #[.tmp 14, .tmp 23]) rfl ?_); at_builtin; refine Kd.R_append_rows (Kd.int .u8) (w0 := w) (W := (w.alloc (.cells #[.int .u8 (a : Int), .int .u8 (b : Int)] 5))) w.heap.size rfl (.tmp 14) (.tmp 23) 22 5 (.int .u8 0) 1 rfl Tryd.underlying22 info5 rfl (by decide) (by decide) (.slice none 0 0) [] (ints [a, b]) (some ⟨w.heap.size, 0, none⟩) 2 2 (fun _ => True) (fun _ => False) rfl rfl ?aN ?aR (fun _ _ h => h) (fun _ h => h.elim) (fun _ _ => trivial) ?aB ?aS ?aL ?_; (case aN => exact Byr.nil _ _); (case aR => exact (own_byr (base := 0) (own_lit w 0 5 .u8 (ints [a, b]) (Nat.zero_le _) (by show 2 ≤ 9223372036854775807; decide))).reads.2.2); (case aB => exact (Below.refl _ _).alloc (Nat.le_refl _) _); (case aS => exact ((Below.refl w.heap.size w).alloc (Nat.le_refl _) _).size); (case aL => simp only [List.length_nil]; decide); intro v5 w5 hn5 hb5 hg5 hat5; have hn5' : Byr w5 w.heap.size v5 [a, b] := hn5; obtain ⟨A5, c5, rfl⟩ := hn5'.slice; have HN5 := Aside0.mk hn5'; have HB5 := Aside0.mk hb5; clear hn5 hb5 hg5 hat5 hn5')
  all_goals
    go_ret
    exact ⟨_, rfl, HN5.out.rdb, HB5.out, fresh_byr HN5.out⟩
set_option maxHeartbeats 4000000 in
set_option maxRecDepth 100000 in
theorem rune_three_lo (a b d r : Nat) (h1a : 224 ≤ a) (h1b : a ≤ 239) (h2a : 128 ≤ b) (h2b : b ≤ 191) (h2c : a = 224 → 160 ≤ b) (h2d : a = 237 → b ≤ 159) (h3a : 128 ≤ d) (h3b : d ≤ 191) (hlo : a ≤ 237) (hr : r = (a % 16) * 4096 + (b % 64) * 64 + d % 64) (w : World) : Calls Tryd.prog 130 #[.slice none 0 0, .int .i32 (r : Int)] w (Unt [a, b, d] w) := by
  obtain ⟨o1, o2, o3, o4, o5⟩ := or_all
  have f0 := wrap_u32 r (by omega)
  obtain ⟨qa, hqa⟩ : ∃ qa : Nat, qa = r / 4096 := ⟨_, rfl⟩
  obtain ⟨za, hza⟩ : ∃ za : Nat, za = qa % 256 := ⟨_, rfl⟩
  have e_a : (r : Int) / 4096 = (qa : Int) := by omega
  have g_a : IntKind.u8.wrap (qa : Int) = (za : Int) := by rw [hza]; exact wrap_u8 _
  have j_a : bits BinOp.or IntKind.u8 224 (za : Int) = (a : Int) := by rw [o2 _ (by omega)]; congr 1; omega
  obtain ⟨qb, hqb⟩ : ∃ qb : Nat, qb = r / 64 := ⟨_, rfl⟩
  obtain ⟨zb, hzb⟩ : ∃ zb : Nat, zb = qb % 256 := ⟨_, rfl⟩
  obtain ⟨yb, hyb⟩ : ∃ yb : Nat, yb = b - 128 := ⟨_, rfl⟩
  have e_b : (r : Int) / 64 = (qb : Int) := by omega
  have g_b : IntKind.u8.wrap (qb : Int) = (zb : Int) := by rw [hzb]; exact wrap_u8 _
  have k_b : bits BinOp.and IntKind.u8 (zb : Int) 63 = (yb : Int) := by rw [o5 _ (by omega)]; congr 1; omega
  have j_b : bits BinOp.or IntKind.u8 128 (yb : Int) = (b : Int) := by rw [o4 _ (by omega)]; congr 1; omega
  obtain ⟨zz, hzz⟩ : ∃ zz : Nat, zz = r % 256 := ⟨_, rfl⟩
  obtain ⟨yd, hyd⟩ : ∃ yd : Nat, yd = d - 128 := ⟨_, rfl⟩
  have g_d : IntKind.u8.wrap (r : Int) = (zz : Int) := by rw [hzz]; exact wrap_u8 r
  have k_d : bits BinOp.and IntKind.u8 (zz : Int) 63 = (yd : Int) := by rw [o5 _ (by omega)]; congr 1; omega
  have j_d : bits BinOp.or IntKind.u8 128 (yd : Int) = (d : Int) := by rw [o4 _ (by omega)]; congr 1; omega
  have d0 : decide ((r : Int) ≤ 2047) = false := decide_eq_false (by omega)
  have d1 : decide ((r : Int) < 55296) = true := decide_eq_true (by omega)
  clear o1 o2 o3 o4 o5 hr hqa hza hqb hzb hyb hzz hyd
  go_enter Tryd.func130, Tryd.ntmps130
  go_wp2_with ((with_reducible refine gate_builtin (b := .append) (xs := #[.tmp 34, .tmp 48]) rfl ?_); at_builtin; refine Kd.R_append_rows (Kd.int .u8) (w0 := w) (W := (w.alloc (.cells #[.int .u8 (a : Int), .int .u8 (b : Int), .int .u8 (d : Int)] 5))) w.heap.size rfl (.tmp 34) (.tmp 48) 22 5 (.int .u8 0) 1 rfl Tryd.underlying22 info5 rfl (by decide) (by decide) (.slice none 0 0) [] (ints [a, b, d]) (some ⟨w.heap.size, 0, none⟩) 3 3 (fun _ => True) (fun _ => False) rfl rfl ?aN ?aR (fun _ _ h => h) (fun _ h => h.elim) (fun _ _ => trivial) ?aB ?aS ?aL ?_; (case aN => exact Byr.nil _ _); (case aR => exact (own_byr (base := 0) (own_lit w 0 5 .u8 (ints [a, b, d]) (Nat.zero_le _) (by show 3 ≤ 9223372036854775807; decide))).reads.2.2); (case aB => exact (Below.refl _ _).alloc (Nat.le_refl _) _); (case aS => exact ((Below.refl w.heap.size w).alloc (Nat.le_refl _) _).size); (case aL => simp only [List.length_nil]; decide); intro v5 w5 hn5 hb5 hg5 hat5; have hn5' : Byr w5 w.heap.size v5 [a, b, d] := hn5; obtain ⟨A5, c5, rfl⟩ := hn5'.slice; have HN5 := Aside0.mk hn5'; have HB5 := Aside0.mk hb5; clear hn5 hb5 hg5 hat5 hn5')
  all_goals
    go_ret
    exact ⟨_, rfl, HN5.out.rdb, HB5.out, fresh_byr HN5.out⟩
set_option maxHeartbeats 4000000 in
set_option maxRecDepth 100000 in
theorem rune_three_hi (a b d r : Nat) (h1a : 224 ≤ a) (h1b : a ≤ 239) (h2a : 128 ≤ b) (h2b : b ≤ 191) (h2c : a = 224 → 160 ≤ b) (h2d : a = 237 → b ≤ 159) (h3a : 128 ≤ d) (h3b : d ≤ 191) (hlo : 238 ≤ a) (hr : r = (a % 16) * 4096 + (b % 64) * 64 + d % 64) (w : World) : Calls Tryd.prog 130 #[.slice none 0 0, .int .i32 (r : Int)] w (Unt [a, b, d] w) := by
  obtain ⟨o1, o2, o3, o4, o5⟩ := or_all
  have f0 := wrap_u32 r (by omega)
  obtain ⟨qa, hqa⟩ : ∃ qa : Nat, qa = r / 4096 := ⟨_, rfl⟩
  obtain ⟨za, hza⟩ : ∃ za : Nat, za = qa % 256 := ⟨_, rfl⟩
  have e_a : (r : Int) / 4096 = (qa : Int) := by omega
  have g_a : IntKind.u8.wrap (qa : Int) = (za : Int) := by rw [hza]; exact wrap_u8 _
  have j_a : bits BinOp.or IntKind.u8 224 (za : Int) = (a : Int) := by rw [o2 _ (by omega)]; congr 1; omega
  obtain ⟨qb, hqb⟩ : ∃ qb : Nat, qb = r / 64 := ⟨_, rfl⟩
  obtain ⟨zb, hzb⟩ : ∃ zb : Nat, zb = qb % 256 := ⟨_, rfl⟩
  obtain ⟨yb, hyb⟩ : ∃ yb : Nat, yb = b - 128 := ⟨_, rfl⟩
  have e_b : (r : Int) / 64 = (qb : Int) := by omega
  have g_b : IntKind.u8.wrap (qb : Int) = (zb : Int) := by rw [hzb]; exact wrap_u8 _
  have k_b : bits BinOp.and IntKind.u8 (zb : Int) 63 = (yb : Int) := by rw [o5 _ (by omega)]; congr 1; omega
  have j_b : bits BinOp.or IntKind.u8 128 (yb : Int) = (b : Int) := by rw [o4 _ (by omega)]; congr 1; omega
  obtain ⟨zz, hzz⟩ : ∃ zz : Nat, zz = r % 256 := ⟨_, rfl⟩
  obtain ⟨yd, hyd⟩ : ∃ yd : Nat, yd = d - 128 := ⟨_, rfl⟩
  have g_d : IntKind.u8.wrap (r : Int) = (zz : Int) := by rw [hzz]; exact wrap_u8 r
  have k_d : bits BinOp.and IntKind.u8 (zz : Int) 63 = (yd : Int) := by rw [o5 _ (by omega)]; congr 1; omega
  have j_d : bits BinOp.or IntKind.u8 128 (yd : Int) = (d : Int) := by rw [o4 _ (by omega)]; congr 1; omega
  have d0 : decide ((r : Int) ≤ 2047) = false := decide_eq_false (by omega)
  have d1 : decide ((r : Int) < 55296) = false := decide_eq_false (by omega)
  have d2 : decide (57343 < (r : Int)) = true := decide_eq_true (by omega)
  have d3 : decide ((r : Int) ≤ 65535) = true := decide_eq_true (by omega)
  clear o1 o2 o3 o4 o5 hr hqa hza hqb hzb hyb hzz hyd
  go_enter Tryd.func130, Tryd.ntmps130
  go_wp2_with ((with_reducible refine gate_builtin (b := .append) (xs := #[.tmp 34, .tmp 48]) rfl ?_); at_builtin; refine Kd.R_append_rows (Kd.int .u8) (w0 := w) (W := (w.alloc (.cells #[.int .u8 (a : Int), .int .u8 (b : Int), .int .u8 (d : Int)] 5))) w.heap.size rfl (.tmp 34) (.tmp 48) 22 5 (.int .u8 0) 1 rfl Tryd.underlying22 info5 rfl (by decide) (by decide) (.slice none 0 0) [] (ints [a, b, d]) (some ⟨w.heap.size, 0, none⟩) 3 3 (fun _ => True) (fun _ => False) rfl rfl ?aN ?aR (fun _ _ h => h) (fun _ h => h.elim) (fun _ _ => trivial) ?aB ?aS ?aL ?_; (case aN => exact Byr.nil _ _); (case aR => exact (own_byr (base := 0) (own_lit w 0 5 .u8 (ints [a, b, d]) (Nat.zero_le _) (by show 3 ≤ 9223372036854775807; decide))).reads.2.2); (case aB => exact (Below.refl _ _).alloc (Nat.le_refl _) _); (case aS => exact ((Below.refl w.heap.size w).alloc (Nat.le_refl _) _).size); (case aL => simp only [List.length_nil]; decide); intro v5 w5 hn5 hb5 hg5 hat5; have hn5' : Byr w5 w.heap.size v5 [a, b, d] := hn5; obtain ⟨A5, c5, rfl⟩ := hn5'.slice; have HN5 := Aside0.mk hn5'; have HB5 := Aside0.mk hb5; clear hn5 hb5 hg5 hat5 hn5')
  all_goals
    go_ret
    exact ⟨_, rfl, HN5.out.rdb, HB5.out, fresh_byr HN5.out⟩
theorem rune_three (a b d r : Nat) (h1a : 224 ≤ a) (h1b : a ≤ 239) (h2a : 128 ≤ b) (h2b : b ≤ 191) (h2c : a = 224 → 160 ≤ b) (h2d : a = 237 → b ≤ 159) (h3a : 128 ≤ d) (h3b : d ≤ 191) (hr : r = (a % 16) * 4096 + (b % 64) * 64 + d % 64) (w : World) : Calls Tryd.prog 130 #[.slice none 0 0, .int .i32 (r : Int)] w (Unt [a, b, d] w) := by
  rcases Nat.lt_or_ge a 238 with h | h
  · exact rune_three_lo a b d r h1a h1b h2a h2b h2c h2d h3a h3b (by omega) hr w
  · exact rune_three_hi a b d r h1a h1b h2a h2b h2c h2d h3a h3b h hr w
set_option maxHeartbeats 4000000 in
set_option maxRecDepth 100000 in
theorem rune_four (a b d e r : Nat) (h1a : 240 ≤ a) (h1b : a ≤ 244) (h2a : 128 ≤ b) (h2b : b ≤ 191) (h2c : a = 240 → 144 ≤ b) (h2d : a = 244 → b ≤ 143) (h3a : 128 ≤ d) (h3b : d ≤ 191) (h4a : 128 ≤ e) (h4b : e ≤ 191) (hr : r = (a % 8) * 262144 + (b % 64) * 4096 + (d % 64) * 64 + e % 64) (w : World) : Calls Tryd.prog 130 #[.slice none 0 0, .int .i32 (r : Int)] w (Unt [a, b, d, e] w) := by
  obtain ⟨o1, o2, o3, o4, o5⟩ := or_all
  have f0 := wrap_u32 r (by omega)
  obtain ⟨qa, hqa⟩ : ∃ qa : Nat, qa = r / 262144 := ⟨_, rfl⟩
  obtain ⟨za, hza⟩ : ∃ za : Nat, za = qa % 256 := ⟨_, rfl⟩
  have e_a : (r : Int) / 262144 = (qa : Int) := by omega
  have g_a : IntKind.u8.wrap (qa : Int) = (za : Int) := by rw [hza]; exact wrap_u8 _
  have j_a : bits BinOp.or IntKind.u8 240 (za : Int) = (a : Int) := by rw [o3 _ (by omega)]; congr 1; omega
  obtain ⟨qb, hqb⟩ : ∃ qb : Nat, qb = r / 4096 := ⟨_, rfl⟩
  obtain ⟨zb, hzb⟩ : ∃ zb : Nat, zb = qb % 256 := ⟨_, rfl⟩
  obtain ⟨yb, hyb⟩ : ∃ yb : Nat, yb = b - 128 := ⟨_, rfl⟩
  have e_b : (r : Int) / 4096 = (qb : Int) := by omega
  have g_b : IntKind.u8.wrap (qb : Int) = (zb : Int) := by rw [hzb]; exact wrap_u8 _
  have k_b : bits BinOp.and IntKind.u8 (zb : Int) 63 = (yb : Int) := by rw [o5 _ (by omega)]; congr 1; omega
  have j_b : bits BinOp.or IntKind.u8 128 (yb : Int) = (b : Int) := by rw [o4 _ (by omega)]; congr 1; omega
  obtain ⟨qd, hqd⟩ : ∃ qd : Nat, qd = r / 64 := ⟨_, rfl⟩
  obtain ⟨zd, hzd⟩ : ∃ zd : Nat, zd = qd % 256 := ⟨_, rfl⟩
  obtain ⟨yd, hyd⟩ : ∃ yd : Nat, yd = d - 128 := ⟨_, rfl⟩
  have e_d : (r : Int) / 64 = (qd : Int) := by omega
  have g_d : IntKind.u8.wrap (qd : Int) = (zd : Int) := by rw [hzd]; exact wrap_u8 _
  have k_d : bits BinOp.and IntKind.u8 (zd : Int) 63 = (yd : Int) := by rw [o5 _ (by omega)]; congr 1; omega
  have j_d : bits BinOp.or IntKind.u8 128 (yd : Int) = (d : Int) := by rw [o4 _ (by omega)]; congr 1; omega
  obtain ⟨zz, hzz⟩ : ∃ zz : Nat, zz = r % 256 := ⟨_, rfl⟩
  obtain ⟨ye, hye⟩ : ∃ ye : Nat, ye = e - 128 := ⟨_, rfl⟩
  have g_e : IntKind.u8.wrap (r : Int) = (zz : Int) := by rw [hzz]; exact wrap_u8 r
  have k_e : bits BinOp.and IntKind.u8 (zz : Int) 63 = (ye : Int) := by rw [o5 _ (by omega)]; congr 1; omega
  have j_e : bits BinOp.or IntKind.u8 128 (ye : Int) = (e : Int) := by rw [o4 _ (by omega)]; congr 1; omega
  have d0 : decide ((r : Int) ≤ 2047) = false := decide_eq_false (by omega)
  have d1 : decide ((r : Int) < 55296) = false := decide_eq_false (by omega)
  have d2 : decide (57343 < (r : Int)) = true := decide_eq_true (by omega)
  have d3 : decide ((r : Int) ≤ 65535) = false := decide_eq_false (by omega)
  have d4 : decide (65535 < (r : Int)) = true := decide_eq_true (by omega)
  have d5 : decide ((r : Int) ≤ 1114111) = true := decide_eq_true (by omega)
  clear o1 o2 o3 o4 o5 hr hqa hza hqb hzb hyb hqd hzd hyd hzz hye
  go_enter Tryd.func130, Tryd.ntmps130
  go_wp2_with ((with_reducible refine gate_builtin (b := .append) (xs := #[.tmp 57, .tmp 76]) rfl ?_); at_builtin; refine Kd.R_append_rows (Kd.int .u8) (w0 := w) (W := (w.alloc (.cells #[.int .u8 (a : Int), .int .u8 (b : Int), .int .u8 (d : Int), .int .u8 (e : Int)] 5))) w.heap.size rfl (.tmp 57) (.tmp 76) 22 5 (.int .u8 0) 1 rfl Tryd.underlying22 info5 rfl (by decide) (by decide) (.slice none 0 0) [] (ints [a, b, d, e]) (some ⟨w.heap.size, 0, none⟩) 4 4 (fun _ => True) (fun _ => False) rfl rfl ?aN ?aR (fun _ _ h => h) (fun _ h => h.elim) (fun _ _ => trivial) ?aB ?aS ?aL ?_; (case aN => exact Byr.nil _ _); (case aR => exact (own_byr (base := 0) (own_lit w 0 5 .u8 (ints [a, b, d, e]) (Nat.zero_le _) (by show 4 ≤ 9223372036854775807; decide))).reads.2.2); (case aB => exact (Below.refl _ _).alloc (Nat.le_refl _) _); (case aS => exact ((Below.refl w.heap.size w).alloc (Nat.le_refl _) _).size); (case aL => simp only [List.length_nil]; decide); intro v5 w5 hn5 hb5 hg5 hat5; have hn5' : Byr w5 w.heap.size v5 [a, b, d, e] := hn5; obtain ⟨A5, c5, rfl⟩ := hn5'.slice; have HN5 := Aside0.mk hn5'; have HB5 := Aside0.mk hb5; clear hn5 hb5 hg5 hat5 hn5')
  all_goals
    go_ret
    exact ⟨_, rfl, HN5.out.rdb, HB5.out, fresh_byr HN5.out⟩
theorem rune_non {x : Int} {c : List Nat} (hc : Chr c) (hx : x = (val c : Int)) (h : ¬ val c ≤ 127) (w : World) : Calls Tryd.prog 130 #[.slice none 0 0, .int .i32 x] w (Unt c w) := by
  subst hx
  cases hc with
  | one a h1 => exact absurd (show val [a] ≤ 127 by simp only [val]; omega) h
  | two a b h1 h2 h3 h4 => exact rune_two a b _ h1 h2 h3 h4 rfl w
  | three a b d h1 h2 h3 h4 h5 h6 h7 h8 => exact rune_three a b d _ h1 h2 h3 h4 h5 h6 h7 h8 rfl w
  | four a b d e h1 h2 h3 h4 h5 h6 h7 h8 h9 h10 => exact rune_four a b d e _ h1 h2 h3 h4 h5 h6 h7 h8 h9 h10 rfl w
theorem val_one {c : List Nat} (hc : Chr c) (h : val c ≤ 127) : c = [val c] := by
  cases hc with
  | one a h1 => rfl
  | two a b h1 h2 h3 h4 => simp only [val] at h; omega
  | three a b d h1 h2 h3 h4 h5 h6 h7 h8 => simp only [val] at h; omega
  | four a b d e h1 h2 h3 h4 h5 h6 h7 h8 h9 h10 => simp only [val] at h; omega
theorem val_bound {c : List Nat} (hc : Chr c) : val c < 1114112 := by
  cases hc <;> simp only [val] <;> omega
theorem unt_out {l : List Nat} {w W : World} {A : Option Addr} {n cp : Nat} (h : Rdb W (.slice A n cp) l) (hb : Below w.heap.size w W) (hf : Fresh w (.slice A n cp)) : Unt l w (.returned (.slice A n cp)) W := ⟨_, rfl, h, hb, hf⟩
set_option maxHeartbeats 4000000 in
set_option maxRecDepth 100000 in
theorem append_rune {c : List Nat} (hc : Chr c) (w : World) : Calls Tryd.prog 114 #[.slice none 0 0, .int .i32 (val c : Int)] w (Unt c w) := by
  have hb := val_bound hc
  have f0 := wrap_u32 (val c) (by omega)
  have HC := Aside0.mk hc
  by_cases h : val c ≤ 127
  · have hv := val_one hc h
    have d0 : decide (((val c : Nat) : Int) ≤ 127) = true := decide_eq_true (by omega)
    obtain ⟨r, hr⟩ : ∃ r, r = val c := ⟨_, rfl⟩
    rw [← hr] at hv f0 d0 ⊢
    have f1 : IntKind.u8.wrap (r : Int) = (r : Int) := by rw [wrap_u8 r]; omega
    rw [hv]
    clear hb hr hv h hc
    go_enter Tryd.func114, Tryd.ntmps114
    go_wp2_with ((with_reducible refine gate_builtin (b := .append) (xs := #[.tmp 8, .tmp 11]) rfl ?_); at_builtin; refine Kd.R_append_rows (Kd.int .u8) (w0 := w) (W := (w.alloc (.cells #[.int .u8 (r : Int)] 5))) w.heap.size rfl (.tmp 8) (.tmp 11) 22 5 (.int .u8 0) 1 rfl Tryd.underlying22 info5 rfl (by decide) (by decide) (.slice none 0 0) [] (ints [r]) (some ⟨w.heap.size, 0, none⟩) 1 1 (fun _ => True) (fun _ => False) rfl rfl ?aN ?aR (fun _ _ h => h) (fun _ h => h.elim) (fun _ _ => trivial) ?aB ?aS ?aL ?_; (case aN => exact Byr.nil _ _); (case aR => exact (own_byr (base := 0) (own_lit w 0 5 .u8 (ints [r]) (Nat.zero_le _) (by show 1 ≤ 9223372036854775807; decide))).reads.2.2); (case aB => exact (Below.refl _ _).alloc (Nat.le_refl _) _); (case aS => exact ((Below.refl w.heap.size w).alloc (Nat.le_refl _) _).size); (case aL => simp only [List.length_nil]; decide); intro v5 w5 hn5 hb5 hg5 hat5; have hn5' : Byr w5 w.heap.size v5 [r] := hn5; obtain ⟨A5, c5, rfl⟩ := hn5'.slice; have HN5 := Aside0.mk hn5'; have HB5 := Aside0.mk hb5; clear hn5 hb5 hg5 hat5 hn5')
    go_ret
    exact ⟨_, rfl, HN5.out.rdb, HB5.out, fresh_byr HN5.out⟩
  · have d0 : decide (((val c : Nat) : Int) ≤ 127) = false := decide_eq_false (by omega)
    have HH := Aside0.mk h
    obtain ⟨r, hr⟩ : ∃ r, r = val c := ⟨_, rfl⟩
    have HR := Aside0.mk hr
    rw [← hr] at f0 d0 ⊢
    clear hb h hr hc
    go_enter Tryd.func114, Tryd.ntmps114
    go_wp2_with (go_at_call 130; (with_reducible refine (rune_non HC.out ?hx HH.out _).mono ?_); (case hx => exact congrArg _ HR.out); rintro e w1 ⟨v, rfl, ⟨A, cp, rfl, h1, h2⟩, h3, h4⟩; have HU := Aside0.mk (And.intro (show Rdb w1 (.slice A c.length cp) c from ⟨A, cp, rfl, h1, h2⟩) (And.intro h3 h4)); clear h1 h2 h3 h4)
    go_ret
    exact ⟨_, rfl, HU.out.1, HU.out.2⟩
theorem append_at {c : List Nat} {x : Int} (hc : Chr c) (hx : x = (val c : Int)) (w : World) : Calls Tryd.prog 114 #[.slice none 0 0, .int .i32 x] w (Unt c w) := by
  subst hx
  exact append_rune hc w
def jsU (c : List Nat) : List Nat := let r := val c
  if r = 92 then [92, 92] else if r = 47 then [92, 47] else if r = 10 then [92, 110] else if r = 13 then [92, 114] else if r = 9 then [92, 116]
  else if r = 39 ∨ r = 34 ∨ r = 60 ∨ r = 62 ∨ r = 38 ∨ r = 96 ∨ r = 61 then 92 :: 120 :: padded 2 (hexF 4 r)
  else if r = 8232 ∨ r = 8233 then 92 :: 117 :: padded 4 (hexF 4 r)
  else if r < 32 ∨ r = 127 then 92 :: 120 :: padded 2 (hexF 4 r) else c
end Go.Proofs.YtfplocpjdjjoaaaDoor.Cut
namespace Go.Proofs.YtfplocpjdjjoaaaDoor.Cut
open Go Go.RowKit Go.Proofs.YtfplocpjdjjoaaaDoor.Trail Go.Proofs.YtfplocpjdjjoaaaDoor.Ctxs Go.Proofs.YtfplocpjdjjoaaaDoorW.PrintWords
set_option linter.unusedVariables false
set_option linter.unusedSimpArgs false
theorem hex_at {x : Int} (n k : Nat) (hx : x = (n : Int)) (hn : n < 65536) (hk : k ≤ 4) (d : List Nat) (hd : padded k (hexF 4 n) = d) (w : World) (hT : Tz w) : Calls Tryd.prog 113 #[.int .u64 x, .int .i64 (k : Int)] w fun e w' => e = .returned (.string (bs d)) ∧ Below w.heap.size w w' := by
  subst hx
  exact hex_calls n k hn hk d hd w hT
theorem hex_two {x : Int} (n : Nat) (hx : x = (n : Int)) (hn : n < 65536) (d : List Nat) (hd : padded 2 (hexF 4 n) = d) (w : World) (hT : Tz w) : Calls Tryd.prog 113 #[.int .u64 x, .int .i64 2] w fun e w' => e = .returned (.string (bs d)) ∧ Below w.heap.size w w' := hex_at n 2 hx hn (by decide) d hd w hT
theorem hex_four {x : Int} (n : Nat) (hx : x = (n : Int)) (hn : n < 65536) (d : List Nat) (hd : padded 4 (hexF 4 n) = d) (w : World) (hT : Tz w) : Calls Tryd.prog 113 #[.int .u64 x, .int .i64 4] w fun e w' => e = .returned (.string (bs d)) ∧ Below w.heap.size w w' := hex_at n 4 hx hn (by decide) d hd w hT
theorem str_js (y : Nat) (S : ByteArray) (hS : S = bs [92, y]) (d : List Nat) : S ++ bs d = bs (92 :: y :: d) := by
  rw [hS, bs_app]
  rfl
theorem padded_small {k : Nat} {s : List Nat} (h : Small s) : Small (padded k s) := by
  intro x hx
  rcases List.mem_append.1 hx with hx | hx
  · rw [(List.mem_replicate.1 hx).2]; decide
  · exact h x hx
theorem padded_len (k : Nat) (s : List Nat) : (padded k s).length ≤ k + s.length := by
  unfold padded
  rw [List.length_append, List.length_replicate]
  omega
theorem js_bounds (k n : Nat) (hk : k ≤ 4) (hn : n < 65536) (y : Nat) (hy : y < 256) (d : List Nat) (hd : padded k (hexF 4 n) = d) : Small (92 :: y :: d) ∧ (92 :: y :: d).length ≤ 140737488355328 ∧ ¬ 9223372036854775807 < 2 + (bs d).size := by
  have h1 := padded_len k (hexF 4 n)
  have h2 := hexF_len 4 n
  rw [hd] at h1
  refine ⟨small_app (l := [92, y]) (fun x hx => ?_) (hd ▸ padded_small (hexF_small 4 n (by omega))), by simp only [List.length_cons]; omega, by rw [bs_size]; omega⟩
  simp only [List.mem_cons, List.mem_nil_iff, or_false] at hx
  rcases hx with rfl | rfl
  · decide
  · exact hy
set_option maxHeartbeats 4000000 in
set_option maxRecDepth 100000 in
theorem js_92 (w : World) : Calls Tryd.prog 85 #[.int .i32 92] w (Unt [92, 92] w) := by
  have kc := Joins.run_convert_bytes_const_at (P := Tryd.prog) w 22 5 #[.int .u8 92, .int .u8 92] 2 2 w.heap.size rfl Tryd.underlying22 Tryd.underlying5
  go_enter Tryd.func85, Tryd.ntmps85
  go_wp2
  go_ret
  exact ⟨_, rfl, rdb_two (alloc_at (o := .cells #[.int .u8 92, .int .u8 92] 5 (2, 3)) rfl), (Below.refl _ _).alloc (Nat.le_refl _) _, fresh_lit _⟩
set_option maxHeartbeats 4000000 in
set_option maxRecDepth 100000 in
theorem js_47 (w : World) : Calls Tryd.prog 85 #[.int .i32 47] w (Unt [92, 47] w) := by
  have kc := Joins.run_convert_bytes_const_at (P := Tryd.prog) w 22 5 #[.int .u8 92, .int .u8 47] 2 2 w.heap.size rfl Tryd.underlying22 Tryd.underlying5
  go_enter Tryd.func85, Tryd.ntmps85
  go_wp2
  go_ret
  exact ⟨_, rfl, rdb_two (alloc_at (o := .cells #[.int .u8 92, .int .u8 47] 5 (2, 3)) rfl), (Below.refl _ _).alloc (Nat.le_refl _) _, fresh_lit _⟩
set_option maxHeartbeats 4000000 in
set_option maxRecDepth 100000 in
theorem js_10 (w : World) : Calls Tryd.prog 85 #[.int .i32 10] w (Unt [92, 110] w) := by
  have kc := Joins.run_convert_bytes_const_at (P := Tryd.prog) w 22 5 #[.int .u8 92, .int .u8 110] 2 2 w.heap.size rfl Tryd.underlying22 Tryd.underlying5
  go_enter Tryd.func85, Tryd.ntmps85
  go_wp2
  go_ret
  exact ⟨_, rfl, rdb_two (alloc_at (o := .cells #[.int .u8 92, .int .u8 110] 5 (2, 3)) rfl), (Below.refl _ _).alloc (Nat.le_refl _) _, fresh_lit _⟩
set_option maxHeartbeats 4000000 in
set_option maxRecDepth 100000 in
theorem js_13 (w : World) : Calls Tryd.prog 85 #[.int .i32 13] w (Unt [92, 114] w) := by
  have kc := Joins.run_convert_bytes_const_at (P := Tryd.prog) w 22 5 #[.int .u8 92, .int .u8 114] 2 2 w.heap.size rfl Tryd.underlying22 Tryd.underlying5
  go_enter Tryd.func85, Tryd.ntmps85
  go_wp2
  go_ret
  exact ⟨_, rfl, rdb_two (alloc_at (o := .cells #[.int .u8 92, .int .u8 114] 5 (2, 3)) rfl), (Below.refl _ _).alloc (Nat.le_refl _) _, fresh_lit _⟩
set_option maxHeartbeats 4000000 in
set_option maxRecDepth 100000 in
theorem js_9 (w : World) : Calls Tryd.prog 85 #[.int .i32 9] w (Unt [92, 116] w) := by
  have kc := Joins.run_convert_bytes_const_at (P := Tryd.prog) w 22 5 #[.int .u8 92, .int .u8 116] 2 2 w.heap.size rfl Tryd.underlying22 Tryd.underlying5
  go_enter Tryd.func85, Tryd.ntmps85
  go_wp2
  go_ret
  exact ⟨_, rfl, rdb_two (alloc_at (o := .cells #[.int .u8 92, .int .u8 116] 5 (2, 3)) rfl), (Below.refl _ _).alloc (Nat.le_refl _) _, fresh_lit _⟩
set_option maxHeartbeats 4000000 in
set_option maxRecDepth 100000 in
theorem js_39 (w : World) (hT : Tz w) : Calls Tryd.prog 85 #[.int .i32 39] w (Unt (92 :: 120 :: padded 2 (hexF 4 39)) w) := by
  obtain ⟨d, hd⟩ : ∃ d, padded 2 (hexF 4 39) = d := ⟨_, rfl⟩
  rw [hd]
  have HD := Aside0.mk hd
  have HT := Aside0.mk hT
  obtain ⟨j1, j2, j3⟩ := js_bounds 2 39 (by decide) (by decide) 120 (by decide) d hd
  have HSM := Aside0.mk (And.intro j1 j2)
  have e1 : IntKind.u64.wrap 39 = 39 := by kernel_rfl
  clear hd hT j1 j2
  go_enter Tryd.func85, Tryd.ntmps85
  go_wp2_with (go_at_call 113; (with_reducible refine (hex_two 39 ?hx (by first | decide | exact HR.out) d HD.out _ HT.out).mono ?_); (case hx => first | rfl | exact wrap_64 _ (by first | decide | exact HR.out)); rintro e w1 ⟨rfl, hb⟩; obtain ⟨W2, N2, cp, A2, hcv, hr2, hb2, hf2⟩ := string_row w w1 ((⟨#[92, 120]⟩ : ByteArray) ++ bs d) (92 :: 120 :: d) (str_js 120 _ rfl d) HSM.out.1 HSM.out.2 hb; have HR2 := Aside0.mk hr2; have HB2 := Aside0.mk hb2; have HF2 := Aside0.mk hf2; clear hb hr2 hb2 hf2)
  go_ret
  exact ⟨_, rfl, HR2.out, HB2.out, HF2.out⟩
set_option maxHeartbeats 4000000 in
set_option maxRecDepth 100000 in
theorem js_34 (w : World) (hT : Tz w) : Calls Tryd.prog 85 #[.int .i32 34] w (Unt (92 :: 120 :: padded 2 (hexF 4 34)) w) := by
  obtain ⟨d, hd⟩ : ∃ d, padded 2 (hexF 4 34) = d := ⟨_, rfl⟩
  rw [hd]
  have HD := Aside0.mk hd
  have HT := Aside0.mk hT
  obtain ⟨j1, j2, j3⟩ := js_bounds 2 34 (by decide) (by decide) 120 (by decide) d hd
  have HSM := Aside0.mk (And.intro j1 j2)
  have e1 : IntKind.u64.wrap 34 = 34 := by kernel_rfl
  clear hd hT j1 j2
  go_enter Tryd.func85, Tryd.ntmps85
  go_wp2_with (go_at_call 113; (with_reducible refine (hex_two 34 ?hx (by first | decide | exact HR.out) d HD.out _ HT.out).mono ?_); (case hx => first | rfl | exact wrap_64 _ (by first | decide | exact HR.out)); rintro e w1 ⟨rfl, hb⟩; obtain ⟨W2, N2, cp, A2, hcv, hr2, hb2, hf2⟩ := string_row w w1 ((⟨#[92, 120]⟩ : ByteArray) ++ bs d) (92 :: 120 :: d) (str_js 120 _ rfl d) HSM.out.1 HSM.out.2 hb; have HR2 := Aside0.mk hr2; have HB2 := Aside0.mk hb2; have HF2 := Aside0.mk hf2; clear hb hr2 hb2 hf2)
  go_ret
  exact ⟨_, rfl, HR2.out, HB2.out, HF2.out⟩
set_option maxHeartbeats 4000000 in
set_option maxRecDepth 100000 in
theorem js_60 (w : World) (hT : Tz w) : Calls Tryd.prog 85 #[.int .i32 60] w (Unt (92 :: 120 :: padded 2 (hexF 4 60)) w) := by
  obtain ⟨d, hd⟩ : ∃ d, padded 2 (hexF 4 60) = d := ⟨_, rfl⟩
  rw [hd]
  have HD := Aside0.mk hd
  have HT := Aside0.mk hT
  obtain ⟨j1, j2, j3⟩ := js_bounds 2 60 (by decide) (by decide) 120 (by decide) d hd
  have HSM := Aside0.mk (And.intro j1 j2)
  have e1 : IntKind.u64.wrap 60 = 60 := by kernel_rfl
  clear hd hT j1 j2
  go_enter Tryd.func85, Tryd.ntmps85
  go_wp2_with (go_at_call 113; (with_reducible refine (hex_two 60 ?hx (by first | decide | exact HR.out) d HD.out _ HT.out).mono ?_); (case hx => first | rfl | exact wrap_64 _ (by first | decide | exact HR.out)); rintro e w1 ⟨rfl, hb⟩; obtain ⟨W2, N2, cp, A2, hcv, hr2, hb2, hf2⟩ := string_row w w1 ((⟨#[92, 120]⟩ : ByteArray) ++ bs d) (92 :: 120 :: d) (str_js 120 _ rfl d) HSM.out.1 HSM.out.2 hb; have HR2 := Aside0.mk hr2; have HB2 := Aside0.mk hb2; have HF2 := Aside0.mk hf2; clear hb hr2 hb2 hf2)
  go_ret
  exact ⟨_, rfl, HR2.out, HB2.out, HF2.out⟩
set_option maxHeartbeats 4000000 in
set_option maxRecDepth 100000 in
theorem js_62 (w : World) (hT : Tz w) : Calls Tryd.prog 85 #[.int .i32 62] w (Unt (92 :: 120 :: padded 2 (hexF 4 62)) w) := by
  obtain ⟨d, hd⟩ : ∃ d, padded 2 (hexF 4 62) = d := ⟨_, rfl⟩
  rw [hd]
  have HD := Aside0.mk hd
  have HT := Aside0.mk hT
  obtain ⟨j1, j2, j3⟩ := js_bounds 2 62 (by decide) (by decide) 120 (by decide) d hd
  have HSM := Aside0.mk (And.intro j1 j2)
  have e1 : IntKind.u64.wrap 62 = 62 := by kernel_rfl
  clear hd hT j1 j2
  go_enter Tryd.func85, Tryd.ntmps85
  go_wp2_with (go_at_call 113; (with_reducible refine (hex_two 62 ?hx (by first | decide | exact HR.out) d HD.out _ HT.out).mono ?_); (case hx => first | rfl | exact wrap_64 _ (by first | decide | exact HR.out)); rintro e w1 ⟨rfl, hb⟩; obtain ⟨W2, N2, cp, A2, hcv, hr2, hb2, hf2⟩ := string_row w w1 ((⟨#[92, 120]⟩ : ByteArray) ++ bs d) (92 :: 120 :: d) (str_js 120 _ rfl d) HSM.out.1 HSM.out.2 hb; have HR2 := Aside0.mk hr2; have HB2 := Aside0.mk hb2; have HF2 := Aside0.mk hf2; clear hb hr2 hb2 hf2)
  go_ret
  exact ⟨_, rfl, HR2.out, HB2.out, HF2.out⟩
set_option maxHeartbeats 4000000 in
set_option maxRecDepth 100000 in
theorem js_38 (w : World) (hT : Tz w) : Calls Tryd.prog 85 #[.int .i32 38] w (Unt (92 :: 120 :: padded 2 (hexF 4 38)) w) := by
  obtain ⟨d, hd⟩ : ∃ d, padded 2 (hexF 4 38) = d := ⟨_, rfl⟩
  rw [hd]
  have HD := Aside0.mk hd
  have HT := Aside0.mk hT
  obtain ⟨j1, j2, j3⟩ := js_bounds 2 38 (by decide) (by decide) 120 (by decide) d hd
  have HSM := Aside0.mk (And.intro j1 j2)
  have e1 : IntKind.u64.wrap 38 = 38 := by kernel_rfl
  clear hd hT j1 j2
  go_enter Tryd.func85, Tryd.ntmps85
  go_wp2_with (go_at_call 113; (with_reducible refine (hex_two 38 ?hx (by first | decide | exact HR.out) d HD.out _ HT.out).mono ?_); (case hx => first | rfl | exact wrap_64 _ (by first | decide | exact HR.out)); rintro e w1 ⟨rfl, hb⟩; obtain ⟨W2, N2, cp, A2, hcv, hr2, hb2, hf2⟩ := string_row w w1 ((⟨#[92, 120]⟩ : ByteArray) ++ bs d) (92 :: 120 :: d) (str_js 120 _ rfl d) HSM.out.1 HSM.out.2 hb; have HR2 := Aside0.mk hr2; have HB2 := Aside0.mk hb2; have HF2 := Aside0.mk hf2; clear hb hr2 hb2 hf2)
  go_ret
  exact ⟨_, rfl, HR2.out, HB2.out, HF2.out⟩
set_option maxHeartbeats 4000000 in
set_option maxRecDepth 100000 in
theorem js_96 (w : World) (hT : Tz w) : Calls Tryd.prog 85 #[.int .i32 96] w (Unt (92 :: 120 :: padded 2 (hexF 4 96)) w) := by
  obtain ⟨d, hd⟩ : ∃ d, padded 2 (hexF 4 96) = d := ⟨_, rfl⟩
  rw [hd]
  have HD := Aside0.mk hd
  have HT := Aside0.mk hT
  obtain ⟨j1, j2, j3⟩ := js_bounds 2 96 (by decide) (by decide) 120 (by decide) d hd
  have HSM := Aside0.mk (And.intro j1 j2)
  have e1 : IntKind.u64.wrap 96 = 96 := by kernel_rfl
  clear hd hT j1 j2
  go_enter Tryd.func85, Tryd.ntmps85
  go_wp2_with (go_at_call 113; (with_reducible refine (hex_two 96 ?hx (by first | decide | exact HR.out) d HD.out _ HT.out).mono ?_); (case hx => first | rfl | exact wrap_64 _ (by first | decide | exact HR.out)); rintro e w1 ⟨rfl, hb⟩; obtain ⟨W2, N2, cp, A2, hcv, hr2, hb2, hf2⟩ := string_row w w1 ((⟨#[92, 120]⟩ : ByteArray) ++ bs d) (92 :: 120 :: d) (str_js 120 _ rfl d) HSM.out.1 HSM.out.2 hb; have HR2 := Aside0.mk hr2; have HB2 := Aside0.mk hb2; have HF2 := Aside0.mk hf2; clear hb hr2 hb2 hf2)
  go_ret
  exact ⟨_, rfl, HR2.out, HB2.out, HF2.out⟩
set_option maxHeartbeats 4000000 in
set_option maxRecDepth 100000 in
theorem js_61 (w : World) (hT : Tz w) : Calls Tryd.prog 85 #[.int .i32 61] w (Unt (92 :: 120 :: padded 2 (hexF 4 61)) w) := by
  obtain ⟨d, hd⟩ : ∃ d, padded 2 (hexF 4 61) = d := ⟨_, rfl⟩
  rw [hd]
  have HD := Aside0.mk hd
  have HT := Aside0.mk hT
  obtain ⟨j1, j2, j3⟩ := js_bounds 2 61 (by decide) (by decide) 120 (by decide) d hd
  have HSM := Aside0.mk (And.intro j1 j2)
  have e1 : IntKind.u64.wrap 61 = 61 := by kernel_rfl
  clear hd hT j1 j2
  go_enter Tryd.func85, Tryd.ntmps85
  go_wp2_with (go_at_call 113; (with_reducible refine (hex_two 61 ?hx (by first | decide | exact HR.out) d HD.out _ HT.out).mono ?_); (case hx => first | rfl | exact wrap_64 _ (by first | decide | exact HR.out)); rintro e w1 ⟨rfl, hb⟩; obtain ⟨W2, N2, cp, A2, hcv, hr2, hb2, hf2⟩ := string_row w w1 ((⟨#[92, 120]⟩ : ByteArray) ++ bs d) (92 :: 120 :: d) (str_js 120 _ rfl d) HSM.out.1 HSM.out.2 hb; have HR2 := Aside0.mk hr2; have HB2 := Aside0.mk hb2; have HF2 := Aside0.mk hf2; clear hb hr2 hb2 hf2)
  go_ret
  exact ⟨_, rfl, HR2.out, HB2.out, HF2.out⟩
set_option maxHeartbeats 4000000 in
set_option maxRecDepth 100000 in
theorem js_127 (w : World) (hT : Tz w) : Calls Tryd.prog 85 #[.int .i32 127] w (Unt (92 :: 120 :: padded 2 (hexF 4 127)) w) := by
  obtain ⟨d, hd⟩ : ∃ d, padded 2 (hexF 4 127) = d := ⟨_, rfl⟩
  rw [hd]
  have HD := Aside0.mk hd
  have HT := Aside0.mk hT
  obtain ⟨j1, j2, j3⟩ := js_bounds 2 127 (by decide) (by decide) 120 (by decide) d hd
  have HSM := Aside0.mk (And.intro j1 j2)
  have e1 : IntKind.u64.wrap 127 = 127 := by kernel_rfl
  clear hd hT j1 j2
  go_enter Tryd.func85, Tryd.ntmps85
  go_wp2_with (go_at_call 113; (with_reducible refine (hex_two 127 ?hx (by first | decide | exact HR.out) d HD.out _ HT.out).mono ?_); (case hx => first | rfl | exact wrap_64 _ (by first | decide | exact HR.out)); rintro e w1 ⟨rfl, hb⟩; obtain ⟨W2, N2, cp, A2, hcv, hr2, hb2, hf2⟩ := string_row w w1 ((⟨#[92, 120]⟩ : ByteArray) ++ bs d) (92 :: 120 :: d) (str_js 120 _ rfl d) HSM.out.1 HSM.out.2 hb; have HR2 := Aside0.mk hr2; have HB2 := Aside0.mk hb2; have HF2 := Aside0.mk hf2; clear hb hr2 hb2 hf2)
  go_ret
  exact ⟨_, rfl, HR2.out, HB2.out, HF2.out⟩
set_option maxHeartbeats 4000000 in
set_option maxRecDepth 100000 in
theorem js_8232 (w : World) (hT : Tz w) : Calls Tryd.prog 85 #[.int .i32 8232] w (Unt (92 :: 117 :: padded 4 (hexF 4 8232)) w) := by
  obtain ⟨d, hd⟩ : ∃ d, padded 4 (hexF 4 8232) = d := ⟨_, rfl⟩
  rw [hd]
  have HD := Aside0.mk hd
  have HT := Aside0.mk hT
  obtain ⟨j1, j2, j3⟩ := js_bounds 4 8232 (by decide) (by decide) 117 (by decide) d hd
  have HSM := Aside0.mk (And.intro j1 j2)
  have e1 : IntKind.u64.wrap 8232 = 8232 := by kernel_rfl
  clear hd hT j1 j2
  go_enter Tryd.func85, Tryd.ntmps85
  go_wp2_with (go_at_call 113; (with_reducible refine (hex_four 8232 ?hx (by first | decide | exact HR.out) d HD.out _ HT.out).mono ?_); (case hx => first | rfl | exact wrap_64 _ (by first | decide | exact HR.out)); rintro e w1 ⟨rfl, hb⟩; obtain ⟨W2, N2, cp, A2, hcv, hr2, hb2, hf2⟩ := string_row w w1 ((⟨#[92, 117]⟩ : ByteArray) ++ bs d) (92 :: 117 :: d) (str_js 117 _ rfl d) HSM.out.1 HSM.out.2 hb; have HR2 := Aside0.mk hr2; have HB2 := Aside0.mk hb2; have HF2 := Aside0.mk hf2; clear hb hr2 hb2 hf2)
  go_ret
  exact ⟨_, rfl, HR2.out, HB2.out, HF2.out⟩
set_option maxHeartbeats 4000000 in
set_option maxRecDepth 100000 in
theorem js_8233 (w : World) (hT : Tz w) : Calls Tryd.prog 85 #[.int .i32 8233] w (Unt (92 :: 117 :: padded 4 (hexF 4 8233)) w) := by
  obtain ⟨d, hd⟩ : ∃ d, padded 4 (hexF 4 8233) = d := ⟨_, rfl⟩
  rw [hd]
  have HD := Aside0.mk hd
  have HT := Aside0.mk hT
  obtain ⟨j1, j2, j3⟩ := js_bounds 4 8233 (by decide) (by decide) 117 (by decide) d hd
  have HSM := Aside0.mk (And.intro j1 j2)
  have e1 : IntKind.u64.wrap 8233 = 8233 := by kernel_rfl
  clear hd hT j1 j2
  go_enter Tryd.func85, Tryd.ntmps85
  go_wp2_with (go_at_call 113; (with_reducible refine (hex_four 8233 ?hx (by first | decide | exact HR.out) d HD.out _ HT.out).mono ?_); (case hx => first | rfl | exact wrap_64 _ (by first | decide | exact HR.out)); rintro e w1 ⟨rfl, hb⟩; obtain ⟨W2, N2, cp, A2, hcv, hr2, hb2, hf2⟩ := string_row w w1 ((⟨#[92, 117]⟩ : ByteArray) ++ bs d) (92 :: 117 :: d) (str_js 117 _ rfl d) HSM.out.1 HSM.out.2 hb; have HR2 := Aside0.mk hr2; have HB2 := Aside0.mk hb2; have HF2 := Aside0.mk hf2; clear hb hr2 hb2 hf2)
  go_ret
  exact ⟨_, rfl, HR2.out, HB2.out, HF2.out⟩
set_option maxHeartbeats 4000000 in
set_option maxRecDepth 100000 in
theorem js_low (r : Nat) (hr : r < 32) (m92 : r ≠ 92) (m47 : r ≠ 47) (m10 : r ≠ 10) (m13 : r ≠ 13) (m9 : r ≠ 9) (m39 : r ≠ 39) (m34 : r ≠ 34) (m60 : r ≠ 60) (m62 : r ≠ 62) (m38 : r ≠ 38) (m96 : r ≠ 96) (m61 : r ≠ 61) (m8232 : r ≠ 8232) (m8233 : r ≠ 8233) (w : World) (hT : Tz w) : Calls Tryd.prog 85 #[.int .i32 (r : Int)] w (Unt (92 :: 120 :: padded 2 (hexF 4 r)) w) := by
  obtain ⟨d, hd⟩ : ∃ d, padded 2 (hexF 4 r) = d := ⟨_, rfl⟩
  rw [hd]
  have HD := Aside0.mk hd
  have HT := Aside0.mk hT
  obtain ⟨j1, j2, j3⟩ := js_bounds 2 r (by decide) (by omega) 120 (by decide) d hd
  have HSM := Aside0.mk (And.intro j1 j2)
  have n92 : ((r : Int) == 92) = false := by rw [beq_eq_false_iff_ne]; omega
  have n47 : ((r : Int) == 47) = false := by rw [beq_eq_false_iff_ne]; omega
  have n10 : ((r : Int) == 10) = false := by rw [beq_eq_false_iff_ne]; omega
  have n13 : ((r : Int) == 13) = false := by rw [beq_eq_false_iff_ne]; omega
  have n9 : ((r : Int) == 9) = false := by rw [beq_eq_false_iff_ne]; omega
  have n39 : ((r : Int) == 39) = false := by rw [beq_eq_false_iff_ne]; omega
  have n34 : ((r : Int) == 34) = false := by rw [beq_eq_false_iff_ne]; omega
  have n60 : ((r : Int) == 60) = false := by rw [beq_eq_false_iff_ne]; omega
  have n62 : ((r : Int) == 62) = false := by rw [beq_eq_false_iff_ne]; omega
  have n38 : ((r : Int) == 38) = false := by rw [beq_eq_false_iff_ne]; omega
  have n96 : ((r : Int) == 96) = false := by rw [beq_eq_false_iff_ne]; omega
  have n61 : ((r : Int) == 61) = false := by rw [beq_eq_false_iff_ne]; omega
  have n8232 : ((r : Int) == 8232) = false := by rw [beq_eq_false_iff_ne]; omega
  have n8233 : ((r : Int) == 8233) = false := by rw [beq_eq_false_iff_ne]; omega
  have d0 : decide ((0 : Int) ≤ (r : Int)) = true := decide_eq_true (by omega)
  have d1 : decide ((r : Int) < 32) = true := decide_eq_true (by omega)
  have HR := Aside0.mk (show r < 65536 by omega)
  clear hd hT j1 j2 hr m92 m47 m10 m13 m9 m39 m34 m60 m62 m38 m96 m61 m8232 m8233
  go_enter Tryd.func85, Tryd.ntmps85
  go_wp2_with (go_at_call 113; (with_reducible refine (hex_two r ?hx (by first | decide | exact HR.out) d HD.out _ HT.out).mono ?_); (case hx => first | rfl | exact wrap_64 _ (by first | decide | exact HR.out)); rintro e w1 ⟨rfl, hb⟩; obtain ⟨W2, N2, cp, A2, hcv, hr2, hb2, hf2⟩ := string_row w w1 ((⟨#[92, 120]⟩ : ByteArray) ++ bs d) (92 :: 120 :: d) (str_js 120 _ rfl d) HSM.out.1 HSM.out.2 hb; have HR2 := Aside0.mk hr2; have HB2 := Aside0.mk hb2; have HF2 := Aside0.mk hf2; clear hb hr2 hb2 hf2)
  go_ret
  exact ⟨_, rfl, HR2.out, HB2.out, HF2.out⟩
set_option maxHeartbeats 4000000 in
set_option maxRecDepth 100000 in
theorem js_plain {c : List Nat} (hc : Chr c) (r : Nat) (hv : r = val c) (hr : 32 ≤ r) (m127 : r ≠ 127) (m92 : r ≠ 92) (m47 : r ≠ 47) (m10 : r ≠ 10) (m13 : r ≠ 13) (m9 : r ≠ 9) (m39 : r ≠ 39) (m34 : r ≠ 34) (m60 : r ≠ 60) (m62 : r ≠ 62) (m38 : r ≠ 38) (m96 : r ≠ 96) (m61 : r ≠ 61) (m8232 : r ≠ 8232) (m8233 : r ≠ 8233) (w : World) : Calls Tryd.prog 85 #[.int .i32 (r : Int)] w (Unt c w) := by
  have HC := Aside0.mk hc
  have HV := Aside0.mk hv
  have n92 : ((r : Int) == 92) = false := by rw [beq_eq_false_iff_ne]; omega
  have n47 : ((r : Int) == 47) = false := by rw [beq_eq_false_iff_ne]; omega
  have n10 : ((r : Int) == 10) = false := by rw [beq_eq_false_iff_ne]; omega
  have n13 : ((r : Int) == 13) = false := by rw [beq_eq_false_iff_ne]; omega
  have n9 : ((r : Int) == 9) = false := by rw [beq_eq_false_iff_ne]; omega
  have n39 : ((r : Int) == 39) = false := by rw [beq_eq_false_iff_ne]; omega
  have n34 : ((r : Int) == 34) = false := by rw [beq_eq_false_iff_ne]; omega
  have n60 : ((r : Int) == 60) = false := by rw [beq_eq_false_iff_ne]; omega
  have n62 : ((r : Int) == 62) = false := by rw [beq_eq_false_iff_ne]; omega
  have n38 : ((r : Int) == 38) = false := by rw [beq_eq_false_iff_ne]; omega
  have n96 : ((r : Int) == 96) = false := by rw [beq_eq_false_iff_ne]; omega
  have n61 : ((r : Int) == 61) = false := by rw [beq_eq_false_iff_ne]; omega
  have n8232 : ((r : Int) == 8232) = false := by rw [beq_eq_false_iff_ne]; omega
  have n8233 : ((r : Int) == 8233) = false := by rw [beq_eq_false_iff_ne]; omega
  have n127 : ((r : Int) == 127) = false := by rw [beq_eq_false_iff_ne]; omega
  have d0 : decide ((0 : Int) ≤ (r : Int)) = true := decide_eq_true (by omega)
  have d1 : decide ((r : Int) < 32) = false := decide_eq_false (by omega)
  clear hr hv hc m127 m92 m47 m10 m13 m9 m39 m34 m60 m62 m38 m96 m61 m8232 m8233
  go_enter Tryd.func85, Tryd.ntmps85
  go_wp2_with (go_at_call 114; (with_reducible refine (append_at HC.out ?hx _).mono ?_); (case hx => exact congrArg _ HV.out); rintro e w1 ⟨v, rfl, ⟨A, cp, rfl, h1, h2⟩, h3, h4⟩; have HU := Aside0.mk (And.intro (show Rdb w1 (.slice A c.length cp) c from ⟨A, cp, rfl, h1, h2⟩) (And.intro h3 h4)); clear h1 h2 h3 h4)
  go_ret
  exact ⟨_, rfl, HU.out.1, HU.out.2⟩
theorem js_calls {c : List Nat} (hc : Chr c) (w : World) (hT : Tz w) : Calls Tryd.prog 85 #[.int .i32 (val c : Int)] w (Unt (jsU c) w) := by
  obtain ⟨r, hr⟩ : ∃ r, r = val c := ⟨_, rfl⟩
  unfold jsU
  rw [← hr]
  dsimp only
  by_cases m92 : r = 92
  · subst m92; exact js_92 w
  rw [if_neg m92]
  by_cases m47 : r = 47
  · subst m47; exact js_47 w
  rw [if_neg m47]
  by_cases m10 : r = 10
  · subst m10; exact js_10 w
  rw [if_neg m10]
  by_cases m13 : r = 13
  · subst m13; exact js_13 w
  rw [if_neg m13]
  by_cases m9 : r = 9
  · subst m9; exact js_9 w
  rw [if_neg m9]
  by_cases ma : r = 39 ∨ r = 34 ∨ r = 60 ∨ r = 62 ∨ r = 38 ∨ r = 96 ∨ r = 61
  · rw [if_pos ma]
    rcases ma with rfl | rfl | rfl | rfl | rfl | rfl | rfl
    · exact js_39 w hT
    · exact js_34 w hT
    · exact js_60 w hT
    · exact js_62 w hT
    · exact js_38 w hT
    · exact js_96 w hT
    · exact js_61 w hT
  rw [if_neg ma]
  by_cases mb : r = 8232 ∨ r = 8233
  · rw [if_pos mb]
    rcases mb with rfl | rfl
    · exact js_8232 w hT
    · exact js_8233 w hT
  rw [if_neg mb]
  by_cases mc : r < 32 ∨ r = 127
  · rw [if_pos mc]
    rcases mc with h | rfl
    · exact js_low r h m92 m47 m10 m13 m9 (by omega) (by omega) (by omega) (by omega) (by omega) (by omega) (by omega) (by omega) (by omega) w hT
    · exact js_127 w hT
  · rw [if_neg mc]
    exact js_plain hc r hr (by omega) (by omega) m92 m47 m10 m13 m9 (by omega) (by omega) (by omega) (by omega) (by omega) (by omega) (by omega) (by omega) (by omega) w
end Go.Proofs.YtfplocpjdjjoaaaDoor.Cut
namespace Go.Proofs.YtfplocpjdjjoaaaDoor.Cut
open Go Go.RowKit Go.Proofs.YtfplocpjdjjoaaaDoor.Trail Go.Proofs.YtfplocpjdjjoaaaDoor.Ctxs Go.Proofs.YtfplocpjdjjoaaaDoorW.PrintWords
set_option linter.unusedVariables false
set_option linter.unusedSimpArgs false
/-- What a call answers that writes a unit: its parts by name. -/
theorem Unt.parts {l : List Nat} {W W' : World} {e : Ending} (h : Unt l W e W') : ∃ A c, e = .returned (.slice A l.length c) ∧ Rdb W' (.slice A l.length c) l ∧ Below W.heap.size W W' ∧ Fresh W (.slice A l.length c) := by
  obtain ⟨v, rfl, ⟨A, c, rfl, h1, h2⟩, h3, h4⟩ := h
  exact ⟨A, c, rfl, ⟨A, c, rfl, h1, h2⟩, h3, h4⟩
theorem path_at {x : Int} (b : Nat) (hx : x = (b : Int)) (hb : b < 256) (w : World) (hT : Tz w) : Calls Tryd.prog 83 #[.int .u8 x] w (Unt (pathU b) w) := by
  subst hx
  exact path_calls b hb w
theorem queryT_at {x : Int} (b : Nat) (hx : x = (b : Int)) (hb : b < 256) (w : World) (hT : Tz w) : Calls Tryd.prog 84 #[.int .u8 x] w (Unt (queryU b) w) := by
  subst hx
  exact query_calls b hb w
theorem html_at {x : Int} (b : Nat) (hx : x = (b : Int)) (hb : b < 256) (w : World) (hT : Tz w) : Calls Tryd.prog 87 #[.int .u8 x] w (Unt (htmlU b) w) := by
  subst hx
  exact html_calls b w
theorem html_len (b : Nat) : (htmlU b).length ≤ 7 := by
  unfold htmlU
  have := namedOf_len b
  split
  · exact (by decide : 1 ≤ 7)
  · omega
theorem query_len (b : Nat) : (queryU b).length ≤ 7 := by
  unfold queryU
  split <;> simp
theorem path_len (b : Nat) : (pathU b).length ≤ 7 := by
  unfold pathU
  split
  · simp
  · exact query_len b
theorem css_len (b : Nat) : (cssU b).length ≤ 7 := by
  unfold cssU
  split
  · simp [repl]
  · split
    · simp
    · have := hexF_len 4 b
      simp only [List.length_cons, List.length_append, List.length_nil]
      omega
/-- Bytes, each written by a rule. -/
def eachU (U : Nat → List Nat) : List Nat → List Nat
  | [] => []
  | b :: r => U b ++ eachU U r
theorem eachU_app (U : Nat → List Nat) : ∀ l m, eachU U (l ++ m) = eachU U l ++ eachU U m
  | [], m => rfl
  | b :: r, m => by rw [List.cons_append, eachU, eachU, eachU_app U r m, List.append_assoc]
theorem eachU_take (U : Nat → List Nat) (l : List Nat) (k b : Nat) (h : l[k]? = some b) : eachU U (l.take (k + 1)) = eachU U (l.take k) ++ U b := by
  rw [List.take_add_one, h, eachU_app]
  show _ ++ (U b ++ []) = _
  rw [List.append_nil]
theorem eachU_len (U : Nat → List Nat) (n : Nat) (hU : ∀ b, (U b).length ≤ n) : ∀ l, (eachU U l).length ≤ n * l.length
  | [] => Nat.zero_le _
  | b :: r => by
    rw [eachU, List.length_append, List.length_cons, Nat.mul_add, Nat.mul_one]
    have := hU b
    have := eachU_len U n hU r
    omega
theorem rdb_C {W : World} {l : List Nat} {A : Option Addr} {n c : Nat} (h : Rdb W (.slice A n c) l) : Kd.C (Kd.int .u8) W A n (ints l) := by
  obtain ⟨A', c', e, h1, h2⟩ := h
  injection e with e1 e2 e3
  subst e1 e2
  exact h2
/-- An element of a row, as the walk reads it. -/
theorem row_cell {W : World} {A : Option Addr} {N : Nat} {l : List Nat} (h : Kd.C (Kd.int .u8) W A N (ints l)) (k b : Nat) (hk : k < N) (hb : l[k]? = some b) : ∃ ad : Addr, A = some ad ∧ W.cell? (ad.add k) = some (.int .u8 (b : Int)) ∧ (ad.add k).block < W.heap.size := by
  obtain ⟨ad, ea, hc⟩ := Kd.at_int h (k : Int) (Int.natCast_nonneg _) (by omega)
  obtain ⟨hlt, hb'⟩ := List.getElem?_eq_some_iff.1 hb
  have hxr : rd (ints l) (k : Int) = (b : Int) := by simp [rd, ints, hlt, hb']
  rw [hxr] at hc
  rw [Int.toNat_natCast] at hc
  exact ⟨ad, ea, hc, World.block_lt_of_cell? W _ hc⟩
set_option maxHeartbeats 4000000 in
set_option maxRecDepth 100000 in
theorem each_83 (l : List Nat) (hs : Small l) (hl : l.length ≤ 1000) (w : World) (hT : Tz w) (A : Option Addr) (N c : Nat) (hN : N = l.length) (hC : Kd.C (Kd.int .u8) w A N (ints l)) :
    Calls Tryd.prog 82 #[.slice A N c, .func (.func 83) #[] #[]] w fun e W' => ∃ v, e = .returned v ∧ Byr W' w.heap.size v (eachU pathU l) ∧ Below w.heap.size w W' := by
  have HS := Aside0.mk hs
  have HT := Aside0.mk hT
  have HC := Aside0.mk hC
  have HN := Aside0.mk (And.intro hN hl)
  clear hs hl hT hC hN
  go_enter Tryd.func82, Tryd.ntmps82
  go_wp2
  go_loopw [5, 10] (fun ov iv wr => ∃ (k : Nat) (done : List Nat), iv = .int .i64 (k : Int) ∧ k ≤ N ∧ Byr wr w.heap.size ov done ∧ done = eachU pathU (l.take k) ∧ Below w.heap.size w wr) (fun _ iv _ => N - (intOf iv).toNat)
  case atStart => exact ⟨0, [], rfl, Nat.zero_le _, Byr.nil _ _, rfl, Below.refl _ _⟩
  case round =>
    obtain ⟨k, done, rfl, hk, hov, hdone, hbw⟩ := hrel
    obtain ⟨Ao, co, rfl⟩ := hov.slice
    have HOV := Aside0.mk hov
    have HD := Aside0.mk hdone
    have HBW := Aside0.mk hbw
    clear hov hdone hbw
    by_cases hkN : k < N
    · have d1 : decide ((k : Int) < (N : Int)) = true := decide_eq_true (by omega)
      have hkl : k < l.length := by have := HN.out.1; omega
      obtain ⟨b, hb⟩ : ∃ b, l[k]? = some b := ⟨_, List.getElem?_eq_getElem hkl⟩
      obtain ⟨ad, ea, hcell, hal⟩ := row_cell (Kd.C_below HC.out HBW.out) k b hkN hb
      subst ea
      have b1 : (0 : Int) ≤ (k : Int) ∧ (k : Int) < (N : Int) := by omega
      have HB := Aside0.mk (And.intro hb (HS.out b (List.mem_of_getElem? hb)))
      have hln : done.length ≤ 7 * k := by
        rw [HD.out]
        have := eachU_len pathU 7 path_len (l.take k)
        rw [List.length_take, Nat.min_eq_left (by omega)] at this
        exact this
      have HLN := Aside0.mk (show (done.length + (pathU b).length) * 1 ≤ 140737488355328 by have := path_len b; have := HN.out; omega)
      have HK := Aside0.mk hkN
      have D6 := Aside0.mk (show wrap64 ((k : Int) + 1) = ((k + 1 : Nat) : Int) by unfold wrap64; have := HN.out; omega)
      clear hb hkl hkN hln hk
      go_wp2_with (first
        | (go_at_call 83; (with_reducible refine (path_at b ?hx HB.out.2 _ (HT.out.below HBW.out)).mono ?_); (case hx => first | rfl | omega); rintro e w4 hu; obtain ⟨A4, c4, rfl, hr4, hb4, -⟩ := hu.parts; have HB4 := Aside0.mk (HBW.out.trans (hb4.mono HBW.out.size)); have HOV4 := Aside0.mk (HOV.out.below hb4); have HR4 := Aside0.mk hr4; clear hb4 hr4 hu)
        | ((with_reducible refine gate_builtin (b := .append) (xs := #[.tmp 14, .tmp 17]) rfl ?_); at_builtin; refine Kd.R_append_rows (Kd.int .u8) (w0 := w) (W := w4) w.heap.size rfl (.tmp 14) (.tmp 17) 22 5 (.int .u8 0) 1 rfl Tryd.underlying22 info5 rfl (by decide) (by decide) (.slice Ao done.length co) (ints done) (ints (pathU b)) A4 (pathU b).length c4 (fun _ => True) (fun _ => False) rfl rfl ?aN ?aR (fun _ _ h => h) (fun _ h => h.elim) (fun _ _ => trivial) ?aB ?aS ?aL ?_; (case aN => exact HOV4.out); (case aR => exact rdb_C HR4.out); (case aB => exact HB4.out); (case aS => exact (HB4.out).size); (case aL => have := HLN.out; rw [List.length_map]; exact this); intro v5 w5 hn5 hb5 hg5 hat5; have hn5' : Byr w5 w.heap.size v5 (done ++ pathU b) := (by unfold Byr; rw [ints, List.map_append]; exact hn5); obtain ⟨A5, c5, rfl⟩ := hn5'.slice; have HN5 := Aside0.mk hn5'; have HB5 := Aside0.mk hb5; clear hn5 hb5 hg5 hat5 hn5'))
      go_roundw
      case rel =>
        have h5 := HN5.out
        rw [List.length_append] at h5
        exact ⟨k + 1, done ++ pathU b, congrArg (Value.int .i64) D6.out, HK.out, h5, by rw [eachU_take _ _ _ _ HB.out.1, HD.out], HB5.out⟩
      case measure => exact less2 (Nat.lt_succ_self k) HK.out D6.out
    · have hkl : k = N := by omega
      subst hkl
      have d1 : decide ((k : Int) < (k : Int)) = false := decide_eq_false (by omega)
      have hdn : done = eachU pathU l := by rw [HD.out, HN.out.1, List.take_length]
      go_wp2
      refine bodyPost_ret (v := .slice Ao done.length co) ?_ rfl ⟨_, rfl, hdn ▸ HOV.out, HBW.out⟩
      simp [results, Tryd.f82, go_sem]
set_option maxHeartbeats 4000000 in
set_option maxRecDepth 100000 in
theorem each_84 (l : List Nat) (hs : Small l) (hl : l.length ≤ 1000) (w : World) (hT : Tz w) (A : Option Addr) (N c : Nat) (hN : N = l.length) (hC : Kd.C (Kd.int .u8) w A N (ints l)) :
    Calls Tryd.prog 82 #[.slice A N c, .func (.func 84) #[] #[]] w fun e W' => ∃ v, e = .returned v ∧ Byr W' w.heap.size v (eachU queryU l) ∧ Below w.heap.size w W' := by
  have HS := Aside0.mk hs
  have HT := Aside0.mk hT
  have HC := Aside0.mk hC
  have HN := Aside0.mk (And.intro hN hl)
  clear hs hl hT hC hN
  go_enter Tryd.func82, Tryd.ntmps82
  go_wp2
  go_loopw [5, 10] (fun ov iv wr => ∃ (k : Nat) (done : List Nat), iv = .int .i64 (k : Int) ∧ k ≤ N ∧ Byr wr w.heap.size ov done ∧ done = eachU queryU (l.take k) ∧ Below w.heap.size w wr) (fun _ iv _ => N - (intOf iv).toNat)
  case atStart => exact ⟨0, [], rfl, Nat.zero_le _, Byr.nil _ _, rfl, Below.refl _ _⟩
  case round =>
    obtain ⟨k, done, rfl, hk, hov, hdone, hbw⟩ := hrel
    obtain ⟨Ao, co, rfl⟩ := hov.slice
    have HOV := Aside0.mk hov
    have HD := Aside0.mk hdone
    have HBW := Aside0.mk hbw
    clear hov hdone hbw
    by_cases hkN : k < N
    · have d1 : decide ((k : Int) < (N : Int)) = true := decide_eq_true (by omega)
      have hkl : k < l.length := by have := HN.out.1; omega
      obtain ⟨b, hb⟩ : ∃ b, l[k]? = some b := ⟨_, List.getElem?_eq_getElem hkl⟩
      obtain ⟨ad, ea, hcell, hal⟩ := row_cell (Kd.C_below HC.out HBW.out) k b hkN hb
      subst ea
      have b1 : (0 : Int) ≤ (k : Int) ∧ (k : Int) < (N : Int) := by omega
      have HB := Aside0.mk (And.intro hb (HS.out b (List.mem_of_getElem? hb)))
      have hln : done.length ≤ 7 * k := by
        rw [HD.out]
        have := eachU_len queryU 7 query_len (l.take k)
        rw [List.length_take, Nat.min_eq_left (by omega)] at this
        exact this
      have HLN := Aside0.mk (show (done.length + (queryU b).length) * 1 ≤ 140737488355328 by have := query_len b; have := HN.out; omega)
      have HK := Aside0.mk hkN
      have D6 := Aside0.mk (show wrap64 ((k : Int) + 1) = ((k + 1 : Nat) : Int) by unfold wrap64; have := HN.out; omega)
      clear hb hkl hkN hln hk
      go_wp2_with (first
        | (go_at_call 84; (with_reducible refine (queryT_at b ?hx HB.out.2 _ (HT.out.below HBW.out)).mono ?_); (case hx => first | rfl | omega); rintro e w4 hu; obtain ⟨A4, c4, rfl, hr4, hb4, -⟩ := hu.parts; have HB4 := Aside0.mk (HBW.out.trans (hb4.mono HBW.out.size)); have HOV4 := Aside0.mk (HOV.out.below hb4); have HR4 := Aside0.mk hr4; clear hb4 hr4 hu)
        | ((with_reducible refine gate_builtin (b := .append) (xs := #[.tmp 14, .tmp 17]) rfl ?_); at_builtin; refine Kd.R_append_rows (Kd.int .u8) (w0 := w) (W := w4) w.heap.size rfl (.tmp 14) (.tmp 17) 22 5 (.int .u8 0) 1 rfl Tryd.underlying22 info5 rfl (by decide) (by decide) (.slice Ao done.length co) (ints done) (ints (queryU b)) A4 (queryU b).length c4 (fun _ => True) (fun _ => False) rfl rfl ?aN ?aR (fun _ _ h => h) (fun _ h => h.elim) (fun _ _ => trivial) ?aB ?aS ?aL ?_; (case aN => exact HOV4.out); (case aR => exact rdb_C HR4.out); (case aB => exact HB4.out); (case aS => exact (HB4.out).size); (case aL => have := HLN.out; rw [List.length_map]; exact this); intro v5 w5 hn5 hb5 hg5 hat5; have hn5' : Byr w5 w.heap.size v5 (done ++ queryU b) := (by unfold Byr; rw [ints, List.map_append]; exact hn5); obtain ⟨A5, c5, rfl⟩ := hn5'.slice; have HN5 := Aside0.mk hn5'; have HB5 := Aside0.mk hb5; clear hn5 hb5 hg5 hat5 hn5'))
      go_roundw
      case rel =>
        have h5 := HN5.out
        rw [List.length_append] at h5
        exact ⟨k + 1, done ++ queryU b, congrArg (Value.int .i64) D6.out, HK.out, h5, by rw [eachU_take _ _ _ _ HB.out.1, HD.out], HB5.out⟩
      case measure => exact less2 (Nat.lt_succ_self k) HK.out D6.out
    · have hkl : k = N := by omega
      subst hkl
      have d1 : decide ((k : Int) < (k : Int)) = false := decide_eq_false (by omega)
      have hdn : done = eachU queryU l := by rw [HD.out, HN.out.1, List.take_length]
      go_wp2
      refine bodyPost_ret (v := .slice Ao done.length co) ?_ rfl ⟨_, rfl, hdn ▸ HOV.out, HBW.out⟩
      simp [results, Tryd.f82, go_sem]
set_option maxHeartbeats 4000000 in
set_option maxRecDepth 100000 in
theorem each_86 (l : List Nat) (hs : Small l) (hl : l.length ≤ 1000) (w : World) (hT : Tz w) (A : Option Addr) (N c : Nat) (hN : N = l.length) (hC : Kd.C (Kd.int .u8) w A N (ints l)) :
    Calls Tryd.prog 82 #[.slice A N c, .func (.func 86) #[] #[]] w fun e W' => ∃ v, e = .returned v ∧ Byr W' w.heap.size v (eachU cssU l) ∧ Below w.heap.size w W' := by
  have HS := Aside0.mk hs
  have HT := Aside0.mk hT
  have HC := Aside0.mk hC
  have HN := Aside0.mk (And.intro hN hl)
  clear hs hl hT hC hN
  go_enter Tryd.func82, Tryd.ntmps82
  go_wp2
  go_loopw [5, 10] (fun ov iv wr => ∃ (k : Nat) (done : List Nat), iv = .int .i64 (k : Int) ∧ k ≤ N ∧ Byr wr w.heap.size ov done ∧ done = eachU cssU (l.take k) ∧ Below w.heap.size w wr) (fun _ iv _ => N - (intOf iv).toNat)
  case atStart => exact ⟨0, [], rfl, Nat.zero_le _, Byr.nil _ _, rfl, Below.refl _ _⟩
  case round =>
    obtain ⟨k, done, rfl, hk, hov, hdone, hbw⟩ := hrel
    obtain ⟨Ao, co, rfl⟩ := hov.slice
    have HOV := Aside0.mk hov
    have HD := Aside0.mk hdone
    have HBW := Aside0.mk hbw
    clear hov hdone hbw
    by_cases hkN : k < N
    · have d1 : decide ((k : Int) < (N : Int)) = true := decide_eq_true (by omega)
      have hkl : k < l.length := by have := HN.out.1; omega
      obtain ⟨b, hb⟩ : ∃ b, l[k]? = some b := ⟨_, List.getElem?_eq_getElem hkl⟩
      obtain ⟨ad, ea, hcell, hal⟩ := row_cell (Kd.C_below HC.out HBW.out) k b hkN hb
      subst ea
      have b1 : (0 : Int) ≤ (k : Int) ∧ (k : Int) < (N : Int) := by omega
      have HB := Aside0.mk (And.intro hb (HS.out b (List.mem_of_getElem? hb)))
      have hln : done.length ≤ 7 * k := by
        rw [HD.out]
        have := eachU_len cssU 7 css_len (l.take k)
        rw [List.length_take, Nat.min_eq_left (by omega)] at this
        exact this
      have HLN := Aside0.mk (show (done.length + (cssU b).length) * 1 ≤ 140737488355328 by have := css_len b; have := HN.out; omega)
      have HK := Aside0.mk hkN
      have D6 := Aside0.mk (show wrap64 ((k : Int) + 1) = ((k + 1 : Nat) : Int) by unfold wrap64; have := HN.out; omega)
      clear hb hkl hkN hln hk
      go_wp2_with (first
        | (go_at_call 86; (with_reducible refine (css_at b ?hx HB.out.2 _ (HT.out.below HBW.out)).mono ?_); (case hx => first | rfl | omega); rintro e w4 hu; obtain ⟨A4, c4, rfl, hr4, hb4, -⟩ := hu.parts; have HB4 := Aside0.mk (HBW.out.trans (hb4.mono HBW.out.size)); have HOV4 := Aside0.mk (HOV.out.below hb4); have HR4 := Aside0.mk hr4; clear hb4 hr4 hu)
        | ((with_reducible refine gate_builtin (b := .append) (xs := #[.tmp 14, .tmp 17]) rfl ?_); at_builtin; refine Kd.R_append_rows (Kd.int .u8) (w0 := w) (W := w4) w.heap.size rfl (.tmp 14) (.tmp 17) 22 5 (.int .u8 0) 1 rfl Tryd.underlying22 info5 rfl (by decide) (by decide) (.slice Ao done.length co) (ints done) (ints (cssU b)) A4 (cssU b).length c4 (fun _ => True) (fun _ => False) rfl rfl ?aN ?aR (fun _ _ h => h) (fun _ h => h.elim) (fun _ _ => trivial) ?aB ?aS ?aL ?_; (case aN => exact HOV4.out); (case aR => exact rdb_C HR4.out); (case aB => exact HB4.out); (case aS => exact (HB4.out).size); (case aL => have := HLN.out; rw [List.length_map]; exact this); intro v5 w5 hn5 hb5 hg5 hat5; have hn5' : Byr w5 w.heap.size v5 (done ++ cssU b) := (by unfold Byr; rw [ints, List.map_append]; exact hn5); obtain ⟨A5, c5, rfl⟩ := hn5'.slice; have HN5 := Aside0.mk hn5'; have HB5 := Aside0.mk hb5; clear hn5 hb5 hg5 hat5 hn5'))
      go_roundw
      case rel =>
        have h5 := HN5.out
        rw [List.length_append] at h5
        exact ⟨k + 1, done ++ cssU b, congrArg (Value.int .i64) D6.out, HK.out, h5, by rw [eachU_take _ _ _ _ HB.out.1, HD.out], HB5.out⟩
      case measure => exact less2 (Nat.lt_succ_self k) HK.out D6.out
    · have hkl : k = N := by omega
      subst hkl
      have d1 : decide ((k : Int) < (k : Int)) = false := decide_eq_false (by omega)
      have hdn : done = eachU cssU l := by rw [HD.out, HN.out.1, List.take_length]
      go_wp2
      refine bodyPost_ret (v := .slice Ao done.length co) ?_ rfl ⟨_, rfl, hdn ▸ HOV.out, HBW.out⟩
      simp [results, Tryd.f82, go_sem]
set_option maxHeartbeats 4000000 in
set_option maxRecDepth 100000 in
theorem each_87 (l : List Nat) (hs : Small l) (hl : l.length ≤ 1000) (w : World) (hT : Tz w) (A : Option Addr) (N c : Nat) (hN : N = l.length) (hC : Kd.C (Kd.int .u8) w A N (ints l)) :
    Calls Tryd.prog 82 #[.slice A N c, .func (.func 87) #[] #[]] w fun e W' => ∃ v, e = .returned v ∧ Byr W' w.heap.size v (eachU htmlU l) ∧ Below w.heap.size w W' := by
  have HS := Aside0.mk hs
  have HT := Aside0.mk hT
  have HC := Aside0.mk hC
  have HN := Aside0.mk (And.intro hN hl)
  clear hs hl hT hC hN
  go_enter Tryd.func82, Tryd.ntmps82
  go_wp2
  go_loopw [5, 10] (fun ov iv wr => ∃ (k : Nat) (done : List Nat), iv = .int .i64 (k : Int) ∧ k ≤ N ∧ Byr wr w.heap.size ov done ∧ done = eachU htmlU (l.take k) ∧ Below w.heap.size w wr) (fun _ iv _ => N - (intOf iv).toNat)
  case atStart => exact ⟨0, [], rfl, Nat.zero_le _, Byr.nil _ _, rfl, Below.refl _ _⟩
  case round =>
    obtain ⟨k, done, rfl, hk, hov, hdone, hbw⟩ := hrel
    obtain ⟨Ao, co, rfl⟩ := hov.slice
    have HOV := Aside0.mk hov
    have HD := Aside0.mk hdone
    have HBW := Aside0.mk hbw
    clear hov hdone hbw
    by_cases hkN : k < N
    · have d1 : decide ((k : Int) < (N : Int)) = true := decide_eq_true (by omega)
      have hkl : k < l.length := by have := HN.out.1; omega
      obtain ⟨b, hb⟩ : ∃ b, l[k]? = some b := ⟨_, List.getElem?_eq_getElem hkl⟩
      obtain ⟨ad, ea, hcell, hal⟩ := row_cell (Kd.C_below HC.out HBW.out) k b hkN hb
      subst ea
      have b1 : (0 : Int) ≤ (k : Int) ∧ (k : Int) < (N : Int) := by omega
      have HB := Aside0.mk (And.intro hb (HS.out b (List.mem_of_getElem? hb)))
      have hln : done.length ≤ 7 * k := by
        rw [HD.out]
        have := eachU_len htmlU 7 html_len (l.take k)
        rw [List.length_take, Nat.min_eq_left (by omega)] at this
        exact this
      have HLN := Aside0.mk (show (done.length + (htmlU b).length) * 1 ≤ 140737488355328 by have := html_len b; have := HN.out; omega)
      have HK := Aside0.mk hkN
      have D6 := Aside0.mk (show wrap64 ((k : Int) + 1) = ((k + 1 : Nat) : Int) by unfold wrap64; have := HN.out; omega)
      clear hb hkl hkN hln hk
      go_wp2_with (first
        | (go_at_call 87; (with_reducible refine (html_at b ?hx HB.out.2 _ (HT.out.below HBW.out)).mono ?_); (case hx => first | rfl | omega); rintro e w4 hu; obtain ⟨A4, c4, rfl, hr4, hb4, -⟩ := hu.parts; have HB4 := Aside0.mk (HBW.out.trans (hb4.mono HBW.out.size)); have HOV4 := Aside0.mk (HOV.out.below hb4); have HR4 := Aside0.mk hr4; clear hb4 hr4 hu)
        | ((with_reducible refine gate_builtin (b := .append) (xs := #[.tmp 14, .tmp 17]) rfl ?_); at_builtin; refine Kd.R_append_rows (Kd.int .u8) (w0 := w) (W := w4) w.heap.size rfl (.tmp 14) (.tmp 17) 22 5 (.int .u8 0) 1 rfl Tryd.underlying22 info5 rfl (by decide) (by decide) (.slice Ao done.length co) (ints done) (ints (htmlU b)) A4 (htmlU b).length c4 (fun _ => True) (fun _ => False) rfl rfl ?aN ?aR (fun _ _ h => h) (fun _ h => h.elim) (fun _ _ => trivial) ?aB ?aS ?aL ?_; (case aN => exact HOV4.out); (case aR => exact rdb_C HR4.out); (case aB => exact HB4.out); (case aS => exact (HB4.out).size); (case aL => have := HLN.out; rw [List.length_map]; exact this); intro v5 w5 hn5 hb5 hg5 hat5; have hn5' : Byr w5 w.heap.size v5 (done ++ htmlU b) := (by unfold Byr; rw [ints, List.map_append]; exact hn5); obtain ⟨A5, c5, rfl⟩ := hn5'.slice; have HN5 := Aside0.mk hn5'; have HB5 := Aside0.mk hb5; clear hn5 hb5 hg5 hat5 hn5'))
      go_roundw
      case rel =>
        have h5 := HN5.out
        rw [List.length_append] at h5
        exact ⟨k + 1, done ++ htmlU b, congrArg (Value.int .i64) D6.out, HK.out, h5, by rw [eachU_take _ _ _ _ HB.out.1, HD.out], HB5.out⟩
      case measure => exact less2 (Nat.lt_succ_self k) HK.out D6.out
    · have hkl : k = N := by omega
      subst hkl
      have d1 : decide ((k : Int) < (k : Int)) = false := decide_eq_false (by omega)
      have hdn : done = eachU htmlU l := by rw [HD.out, HN.out.1, List.take_length]
      go_wp2
      refine bodyPost_ret (v := .slice Ao done.length co) ?_ rfl ⟨_, rfl, hdn ▸ HOV.out, HBW.out⟩
      simp [results, Tryd.f82, go_sem]
end Go.Proofs.YtfplocpjdjjoaaaDoor.Cut
namespace Go.Proofs.YtfplocpjdjjoaaaDoor.Cut
open Go Go.RowKit Go.Proofs.YtfplocpjdjjoaaaDoor.Trail Go.Proofs.YtfplocpjdjjoaaaDoor.Ctxs Go.Proofs.YtfplocpjdjjoaaaDoorW.PrintWords
set_option linter.unusedVariables false
set_option linter.unusedSimpArgs false
/-- What a call answers that writes bytes: a row that can be read. -/
def Row (l : List Nat) (w : World) (e : Ending) (W' : World) : Prop := ∃ A N c, e = .returned (.slice A N c) ∧ N = l.length ∧ N ≤ c ∧ Kd.C (Kd.int .u8) W' A N (ints l) ∧ Below w.heap.size w W' ∧ Fresh w (.slice A N c)
theorem row_of_byr {l : List Nat} {w W' : World} {e : Ending} (h : ∃ v, e = .returned v ∧ Byr W' w.heap.size v l ∧ Below w.heap.size w W') : Row l w e W' := by
  obtain ⟨v, rfl, h1, h2⟩ := h
  obtain ⟨A, c, rfl⟩ := h1.slice
  exact ⟨A, _, c, rfl, h1.reads.1, h1.reads.2.1, h1.reads.2.2, h2, fresh_byr h1⟩
theorem row_of_unt {l : List Nat} {w W' : World} {e : Ending} (h : Unt l w e W') : Row l w e W' := by
  obtain ⟨A, c, rfl, h1, h2, h5⟩ := h.parts
  obtain ⟨A', c', e, h3, h4⟩ := h1
  injection e with e1 e2 e3
  subst e1 e3
  exact ⟨A, _, c, rfl, rfl, h3, h4, h2, h5⟩
theorem unt_of_row {l : List Nat} {w W' : World} {e : Ending} (h : Row l w e W') : Unt l w e W' := by
  obtain ⟨A, N, c, rfl, rfl, h1, h2, h3, h4⟩ := h
  exact ⟨_, rfl, ⟨A, c, rfl, h1, h2⟩, h3, h4⟩
theorem eachU_small (U : Nat → List Nat) (hU : ∀ b, b < 256 → Small (U b)) : ∀ l, Small l → Small (eachU U l)
  | [], _ => fun x hx => by cases hx
  | b :: r, h => small_app (hU b (h b List.mem_cons_self)) (eachU_small U hU r fun x hx => h x (List.mem_cons_of_mem _ hx))
theorem hexU_small (d : Nat) (h : d < 16) : hexU d < 256 := by
  unfold hexU
  split <;> omega
theorem query_small (b : Nat) (h : b < 256) : Small (queryU b) := by
  unfold queryU
  split
  · exact small_one h
  · intro x hx
    simp only [List.mem_cons, List.mem_nil_iff, or_false] at hx
    rcases hx with rfl | rfl | rfl
    · decide
    · exact hexU_small _ (by omega)
    · exact hexU_small _ (by omega)
theorem path_small (b : Nat) (h : b < 256) : Small (pathU b) := by
  unfold pathU
  split
  · exact small_one h
  · exact query_small b h
theorem css_small (b : Nat) (h : b < 256) : Small (cssU b) := by
  unfold cssU
  split
  · intro x hx
    simp [repl] at hx
    omega
  · split
    · exact small_one h
    · exact small_app (l := [92]) (small_one (by decide)) (small_app (hexF_small 4 b (by omega)) (small_one (by decide)))
theorem html_small (b : Nat) (h : b < 256) : Small (htmlU b) := by
  unfold htmlU
  split
  · exact small_one h
  · exact namedOf_small b
theorem small_two {x y : Nat} (h : x < 256) (h' : y < 256) : Small [x, y] := small_app (l := [x]) (small_one h) (small_one h')
theorem js_small {c : List Nat} (hc : Chr c) : Small (jsU c) := by
  have hb := val_bound hc
  unfold jsU
  dsimp only
  repeat' split
  · exact small_two (by decide) (by decide)
  · exact small_two (by decide) (by decide)
  · exact small_two (by decide) (by decide)
  · exact small_two (by decide) (by decide)
  · exact small_two (by decide) (by decide)
  · exact small_app (l := [92, 120]) (small_two (by decide) (by decide)) (padded_small (hexF_small 4 _ (by omega)))
  · exact small_app (l := [92, 117]) (small_two (by decide) (by decide)) (padded_small (hexF_small 4 _ (by omega)))
  · exact small_app (l := [92, 120]) (small_two (by decide) (by decide)) (padded_small (hexF_small 4 _ (by omega)))
  · exact chr_small hc
theorem chr_len {c : List Nat} (hc : Chr c) : c.length ≤ 4 := by
  cases hc <;> simp
theorem js_len {c : List Nat} (hc : Chr c) : (jsU c).length ≤ 20 := by
  have hl := chr_len hc
  unfold jsU
  dsimp only
  have h1 := padded_len 2 (hexF 4 (val c))
  have h2 := padded_len 4 (hexF 4 (val c))
  have h3 := hexF_len 4 (val c)
  repeat' split
  all_goals (try simp only [List.length_cons, List.length_nil])
  all_goals omega
theorem js_at {c : List Nat} {x : Int} (hc : Chr c) (hx : x = (val c : Int)) (w : World) (hT : Tz w) : Calls Tryd.prog 85 #[.int .i32 x] w (Unt (jsU c) w) := by
  subst hx
  exact js_calls hc w hT
theorem rdb_len {W : World} {l : List Nat} {A : Option Addr} {n c : Nat} (h : Rdb W (.slice A n c) l) : n = l.length := by
  obtain ⟨A', c', e, h1, h2⟩ := h
  injection e
/-- A character in a kind of hole, before HTML. -/
def inner (kind : Nat) (c : List Nat) : List Nat := if kind = 4 ∨ kind = 5 then eachU pathU c else if kind = 6 then eachU queryU c else if kind = 7 ∨ kind = 8 then jsU c else if kind = 9 ∨ kind = 10 then eachU cssU c else c
def unitOf (kind : Nat) (c : List Nat) : List Nat := if kind = 7 ∨ kind = 9 then inner kind c else eachU htmlU (inner kind c)
theorem inner_small {kind : Nat} {c : List Nat} (hc : Chr c) : Small (inner kind c) := by
  have hs := chr_small hc
  unfold inner
  repeat' split
  · exact eachU_small _ path_small _ hs
  · exact eachU_small _ query_small _ hs
  · exact js_small hc
  · exact eachU_small _ css_small _ hs
  · exact hs
theorem inner_len {kind : Nat} {c : List Nat} (hc : Chr c) : (inner kind c).length ≤ 28 := by
  have hl := chr_len hc
  unfold inner
  repeat' split
  · exact Nat.le_trans (eachU_len _ 7 path_len _) (by omega)
  · exact Nat.le_trans (eachU_len _ 7 query_len _) (by omega)
  · exact Nat.le_trans (js_len hc) (by omega)
  · exact Nat.le_trans (eachU_len _ 7 css_len _) (by omega)
  · omega
theorem unit_small {kind : Nat} {c : List Nat} (hc : Chr c) : Small (unitOf kind c) := by
  unfold unitOf
  split
  · exact inner_small hc
  · exact eachU_small _ html_small _ (inner_small hc)
theorem unit_len {kind : Nat} {c : List Nat} (hc : Chr c) : (unitOf kind c).length ≤ 196 := by
  unfold unitOf
  have := inner_len (kind := kind) hc
  split
  · omega
  · exact Nat.le_trans (eachU_len _ 7 html_len _) (by omega)
theorem html_ne (b : Nat) : htmlU b ≠ [] := by
  unfold htmlU
  split
  · simp
  · assumption
theorem query_ne (b : Nat) : queryU b ≠ [] := by
  unfold queryU
  split <;> simp
theorem path_ne (b : Nat) : pathU b ≠ [] := by
  unfold pathU
  split
  · simp
  · exact query_ne b
theorem css_ne (b : Nat) : cssU b ≠ [] := by
  unfold cssU
  split
  · simp [repl]
  · split <;> simp
theorem eachU_ne (U : Nat → List Nat) (hU : ∀ b, U b ≠ []) {l : List Nat} (h : l ≠ []) : eachU U l ≠ [] := by
  cases l with
  | nil => exact absurd rfl h
  | cons b r => simp [eachU, hU b]
theorem js_ne {c : List Nat} (hc : Chr c) : jsU c ≠ [] := by
  have := chr_ne hc
  unfold jsU
  dsimp only
  repeat' split
  all_goals first | assumption | simp
theorem unit_ne {kind : Nat} {c : List Nat} (hc : Chr c) : unitOf kind c ≠ [] := by
  have h0 := chr_ne hc
  have : inner kind c ≠ [] := by
    unfold inner
    repeat' split
    · exact eachU_ne _ path_ne h0
    · exact eachU_ne _ query_ne h0
    · exact js_ne hc
    · exact eachU_ne _ css_ne h0
    · exact h0
  unfold unitOf
  split
  · exact this
  · exact eachU_ne _ html_ne this
theorem rune_string (c : List Nat) (hc : Chr c) (W : World) : (convert 21 9 (.int .i32 (val c : Int))).run Tryd.prog W = .ok (.string (bs c)) W := by
  rw [← encode_chr hc]
  simp [convert, run_underlying Tryd.underlying21, run_underlying Tryd.underlying9, Conv.intToString]
set_option maxHeartbeats 4000000 in
set_option maxRecDepth 100000 in
theorem unit_1 {c : List Nat} (hc : Chr c) (w : World) (hT : Tz w) : Calls Tryd.prog 59 #[.int .u8 1, .int .i32 (val c : Int)] w (Unt (unitOf 1 c) w) := by
  have hin : inner 1 c = c := rfl
  have hun : unitOf 1 c = eachU htmlU (inner 1 c) := rfl
  have hsm := inner_small (kind := 1) hc
  have hln := inner_len (kind := 1) hc
  rw [hun]
  rw [hin] at hsm hln ⊢
  obtain ⟨W2, N0, c0, A0, hcv, hr2, hb2, -⟩ := string_row w w (bs c) c rfl (chr_small hc) (by have := chr_len hc; omega) (Below.refl _ _)
  have hru := rune_string c hc w
  have HC := Aside0.mk hc
  have HT := Aside0.mk hT
  have HR2 := Aside0.mk hr2
  have HB2 := Aside0.mk hb2
  have HP0 := Aside0.mk (And.intro (rdb_len hr2) (rdb_C hr2))
  have HS := Aside0.mk (And.intro hsm (show _ ≤ 1000 from Nat.le_trans hln (by decide)))
  obtain ⟨r, hr⟩ : ∃ r, r = val c := ⟨_, rfl⟩
  have HV := Aside0.mk hr
  rw [← hr] at hru ⊢
  clear hc hT hr2 hb2 hr hin hun hsm hln
  go_enter Tryd.func59, Tryd.ntmps59
  go_wp2_with (first
    | (go_at_call 82; (with_reducible refine (each_87 c HS.out.1 HS.out.2 _ (HT.out.below HB2.out) A0 N0 c0 HP0.out.1 HP0.out.2).mono ?_); rintro e w2 hq; obtain ⟨A2, N2, c2, rfl, p1, p2, p3, p4, p5⟩ := row_of_byr hq; have HP2 := Aside0.mk (And.intro p1 p3); have HQ2 := Aside0.mk (And.intro p2 (And.intro (HB2.out.trans (p4.mono HB2.out.size)) (p5.mono HB2.out.size))); clear p1 p2 p3 p4 p5 hq))
  go_ret
  exact unt_of_row ⟨_, _, _, rfl, HP2.out.1, HQ2.out.1, HP2.out.2, HQ2.out.2.1, HQ2.out.2.2⟩
set_option maxHeartbeats 4000000 in
set_option maxRecDepth 100000 in
theorem unit_2 {c : List Nat} (hc : Chr c) (w : World) (hT : Tz w) : Calls Tryd.prog 59 #[.int .u8 2, .int .i32 (val c : Int)] w (Unt (unitOf 2 c) w) := by
  have hin : inner 2 c = c := rfl
  have hun : unitOf 2 c = eachU htmlU (inner 2 c) := rfl
  have hsm := inner_small (kind := 2) hc
  have hln := inner_len (kind := 2) hc
  rw [hun]
  rw [hin] at hsm hln ⊢
  obtain ⟨W2, N0, c0, A0, hcv, hr2, hb2, -⟩ := string_row w w (bs c) c rfl (chr_small hc) (by have := chr_len hc; omega) (Below.refl _ _)
  have hru := rune_string c hc w
  have HC := Aside0.mk hc
  have HT := Aside0.mk hT
  have HR2 := Aside0.mk hr2
  have HB2 := Aside0.mk hb2
  have HP0 := Aside0.mk (And.intro (rdb_len hr2) (rdb_C hr2))
  have HS := Aside0.mk (And.intro hsm (show _ ≤ 1000 from Nat.le_trans hln (by decide)))
  obtain ⟨r, hr⟩ : ∃ r, r = val c := ⟨_, rfl⟩
  have HV := Aside0.mk hr
  rw [← hr] at hru ⊢
  clear hc hT hr2 hb2 hr hin hun hsm hln
  go_enter Tryd.func59, Tryd.ntmps59
  go_wp2_with (first
    | (go_at_call 82; (with_reducible refine (each_87 c HS.out.1 HS.out.2 _ (HT.out.below HB2.out) A0 N0 c0 HP0.out.1 HP0.out.2).mono ?_); rintro e w2 hq; obtain ⟨A2, N2, c2, rfl, p1, p2, p3, p4, p5⟩ := row_of_byr hq; have HP2 := Aside0.mk (And.intro p1 p3); have HQ2 := Aside0.mk (And.intro p2 (And.intro (HB2.out.trans (p4.mono HB2.out.size)) (p5.mono HB2.out.size))); clear p1 p2 p3 p4 p5 hq))
  go_ret
  exact unt_of_row ⟨_, _, _, rfl, HP2.out.1, HQ2.out.1, HP2.out.2, HQ2.out.2.1, HQ2.out.2.2⟩
set_option maxHeartbeats 4000000 in
set_option maxRecDepth 100000 in
theorem unit_3 {c : List Nat} (hc : Chr c) (w : World) (hT : Tz w) : Calls Tryd.prog 59 #[.int .u8 3, .int .i32 (val c : Int)] w (Unt (unitOf 3 c) w) := by
  have hin : inner 3 c = c := rfl
  have hun : unitOf 3 c = eachU htmlU (inner 3 c) := rfl
  have hsm := inner_small (kind := 3) hc
  have hln := inner_len (kind := 3) hc
  rw [hun]
  rw [hin] at hsm hln ⊢
  obtain ⟨W2, N0, c0, A0, hcv, hr2, hb2, -⟩ := string_row w w (bs c) c rfl (chr_small hc) (by have := chr_len hc; omega) (Below.refl _ _)
  have hru := rune_string c hc w
  have HC := Aside0.mk hc
  have HT := Aside0.mk hT
  have HR2 := Aside0.mk hr2
  have HB2 := Aside0.mk hb2
  have HP0 := Aside0.mk (And.intro (rdb_len hr2) (rdb_C hr2))
  have HS := Aside0.mk (And.intro hsm (show _ ≤ 1000 from Nat.le_trans hln (by decide)))
  obtain ⟨r, hr⟩ : ∃ r, r = val c := ⟨_, rfl⟩
  have HV := Aside0.mk hr
  rw [← hr] at hru ⊢
  clear hc hT hr2 hb2 hr hin hun hsm hln
  go_enter Tryd.func59, Tryd.ntmps59
  go_wp2_with (first
    | (go_at_call 82; (with_reducible refine (each_87 c HS.out.1 HS.out.2 _ (HT.out.below HB2.out) A0 N0 c0 HP0.out.1 HP0.out.2).mono ?_); rintro e w2 hq; obtain ⟨A2, N2, c2, rfl, p1, p2, p3, p4, p5⟩ := row_of_byr hq; have HP2 := Aside0.mk (And.intro p1 p3); have HQ2 := Aside0.mk (And.intro p2 (And.intro (HB2.out.trans (p4.mono HB2.out.size)) (p5.mono HB2.out.size))); clear p1 p2 p3 p4 p5 hq))
  go_ret
  exact unt_of_row ⟨_, _, _, rfl, HP2.out.1, HQ2.out.1, HP2.out.2, HQ2.out.2.1, HQ2.out.2.2⟩
set_option maxHeartbeats 4000000 in
set_option maxRecDepth 100000 in
theorem unit_4 {c : List Nat} (hc : Chr c) (w : World) (hT : Tz w) : Calls Tryd.prog 59 #[.int .u8 4, .int .i32 (val c : Int)] w (Unt (unitOf 4 c) w) := by
  have hin : inner 4 c = eachU pathU c := rfl
  have hun : unitOf 4 c = eachU htmlU (inner 4 c) := rfl
  have hsm := inner_small (kind := 4) hc
  have hln := inner_len (kind := 4) hc
  rw [hun]
  rw [hin] at hsm hln ⊢
  obtain ⟨W2, N0, c0, A0, hcv, hr2, hb2, -⟩ := string_row w w (bs c) c rfl (chr_small hc) (by have := chr_len hc; omega) (Below.refl _ _)
  have hru := rune_string c hc w
  have HC := Aside0.mk hc
  have HT := Aside0.mk hT
  have HR2 := Aside0.mk hr2
  have HB2 := Aside0.mk hb2
  have HP0 := Aside0.mk (And.intro (rdb_len hr2) (rdb_C hr2))
  have HS := Aside0.mk (And.intro hsm (show _ ≤ 1000 from Nat.le_trans hln (by decide)))
  obtain ⟨r, hr⟩ : ∃ r, r = val c := ⟨_, rfl⟩
  have HV := Aside0.mk hr
  rw [← hr] at hru ⊢
  clear hc hT hr2 hb2 hr hin hun hsm hln
  go_enter Tryd.func59, Tryd.ntmps59
  go_wp2_with (first
    | (go_at_call 82; (with_reducible refine (each_83 c (chr_small HC.out) (by have := chr_len HC.out; omega) _ (HT.out.below HB2.out) A0 N0 c0 HP0.out.1 HP0.out.2).mono ?_); rintro e w1 hq; obtain ⟨A1, N1, c1, rfl, p1, p2, p3, p4, p5⟩ := row_of_byr hq; have HP1 := Aside0.mk (And.intro p1 p3); have HQ1 := Aside0.mk (And.intro p2 (And.intro (HB2.out.trans (p4.mono HB2.out.size)) (p5.mono HB2.out.size))); clear p1 p2 p3 p4 p5 hq)
    | (go_at_call 82; (with_reducible refine (each_87 (eachU pathU c) HS.out.1 HS.out.2 _ (HT.out.below HQ1.out.2.1) A1 N1 c1 HP1.out.1 HP1.out.2).mono ?_); rintro e w2 hq; obtain ⟨A2, N2, c2, rfl, p1, p2, p3, p4, p5⟩ := row_of_byr hq; have HP2 := Aside0.mk (And.intro p1 p3); have HQ2 := Aside0.mk (And.intro p2 (And.intro (HQ1.out.2.1.trans (p4.mono HQ1.out.2.1.size)) (p5.mono HQ1.out.2.1.size))); clear p1 p2 p3 p4 p5 hq))
  go_ret
  exact unt_of_row ⟨_, _, _, rfl, HP2.out.1, HQ2.out.1, HP2.out.2, HQ2.out.2.1, HQ2.out.2.2⟩
set_option maxHeartbeats 4000000 in
set_option maxRecDepth 100000 in
theorem unit_5 {c : List Nat} (hc : Chr c) (w : World) (hT : Tz w) : Calls Tryd.prog 59 #[.int .u8 5, .int .i32 (val c : Int)] w (Unt (unitOf 5 c) w) := by
  have hin : inner 5 c = eachU pathU c := rfl
  have hun : unitOf 5 c = eachU htmlU (inner 5 c) := rfl
  have hsm := inner_small (kind := 5) hc
  have hln := inner_len (kind := 5) hc
  rw [hun]
  rw [hin] at hsm hln ⊢
  obtain ⟨W2, N0, c0, A0, hcv, hr2, hb2, -⟩ := string_row w w (bs c) c rfl (chr_small hc) (by have := chr_len hc; omega) (Below.refl _ _)
  have hru := rune_string c hc w
  have HC := Aside0.mk hc
  have HT := Aside0.mk hT
  have HR2 := Aside0.mk hr2
  have HB2 := Aside0.mk hb2
  have HP0 := Aside0.mk (And.intro (rdb_len hr2) (rdb_C hr2))
  have HS := Aside0.mk (And.intro hsm (show _ ≤ 1000 from Nat.le_trans hln (by decide)))
  obtain ⟨r, hr⟩ : ∃ r, r = val c := ⟨_, rfl⟩
  have HV := Aside0.mk hr
  rw [← hr] at hru ⊢
  clear hc hT hr2 hb2 hr hin hun hsm hln
  go_enter Tryd.func59, Tryd.ntmps59
  go_wp2_with (first
    | (go_at_call 82; (with_reducible refine (each_83 c (chr_small HC.out) (by have := chr_len HC.out; omega) _ (HT.out.below HB2.out) A0 N0 c0 HP0.out.1 HP0.out.2).mono ?_); rintro e w1 hq; obtain ⟨A1, N1, c1, rfl, p1, p2, p3, p4, p5⟩ := row_of_byr hq; have HP1 := Aside0.mk (And.intro p1 p3); have HQ1 := Aside0.mk (And.intro p2 (And.intro (HB2.out.trans (p4.mono HB2.out.size)) (p5.mono HB2.out.size))); clear p1 p2 p3 p4 p5 hq)
    | (go_at_call 82; (with_reducible refine (each_87 (eachU pathU c) HS.out.1 HS.out.2 _ (HT.out.below HQ1.out.2.1) A1 N1 c1 HP1.out.1 HP1.out.2).mono ?_); rintro e w2 hq; obtain ⟨A2, N2, c2, rfl, p1, p2, p3, p4, p5⟩ := row_of_byr hq; have HP2 := Aside0.mk (And.intro p1 p3); have HQ2 := Aside0.mk (And.intro p2 (And.intro (HQ1.out.2.1.trans (p4.mono HQ1.out.2.1.size)) (p5.mono HQ1.out.2.1.size))); clear p1 p2 p3 p4 p5 hq))
  go_ret
  exact unt_of_row ⟨_, _, _, rfl, HP2.out.1, HQ2.out.1, HP2.out.2, HQ2.out.2.1, HQ2.out.2.2⟩
set_option maxHeartbeats 4000000 in
set_option maxRecDepth 100000 in
theorem unit_6 {c : List Nat} (hc : Chr c) (w : World) (hT : Tz w) : Calls Tryd.prog 59 #[.int .u8 6, .int .i32 (val c : Int)] w (Unt (unitOf 6 c) w) := by
  have hin : inner 6 c = eachU queryU c := rfl
  have hun : unitOf 6 c = eachU htmlU (inner 6 c) := rfl
  have hsm := inner_small (kind := 6) hc
  have hln := inner_len (kind := 6) hc
  rw [hun]
  rw [hin] at hsm hln ⊢
  obtain ⟨W2, N0, c0, A0, hcv, hr2, hb2, -⟩ := string_row w w (bs c) c rfl (chr_small hc) (by have := chr_len hc; omega) (Below.refl _ _)
  have hru := rune_string c hc w
  have HC := Aside0.mk hc
  have HT := Aside0.mk hT
  have HR2 := Aside0.mk hr2
  have HB2 := Aside0.mk hb2
  have HP0 := Aside0.mk (And.intro (rdb_len hr2) (rdb_C hr2))
  have HS := Aside0.mk (And.intro hsm (show _ ≤ 1000 from Nat.le_trans hln (by decide)))
  obtain ⟨r, hr⟩ : ∃ r, r = val c := ⟨_, rfl⟩
  have HV := Aside0.mk hr
  rw [← hr] at hru ⊢
  clear hc hT hr2 hb2 hr hin hun hsm hln
  go_enter Tryd.func59, Tryd.ntmps59
  go_wp2_with (first
    | (go_at_call 82; (with_reducible refine (each_84 c (chr_small HC.out) (by have := chr_len HC.out; omega) _ (HT.out.below HB2.out) A0 N0 c0 HP0.out.1 HP0.out.2).mono ?_); rintro e w1 hq; obtain ⟨A1, N1, c1, rfl, p1, p2, p3, p4, p5⟩ := row_of_byr hq; have HP1 := Aside0.mk (And.intro p1 p3); have HQ1 := Aside0.mk (And.intro p2 (And.intro (HB2.out.trans (p4.mono HB2.out.size)) (p5.mono HB2.out.size))); clear p1 p2 p3 p4 p5 hq)
    | (go_at_call 82; (with_reducible refine (each_87 (eachU queryU c) HS.out.1 HS.out.2 _ (HT.out.below HQ1.out.2.1) A1 N1 c1 HP1.out.1 HP1.out.2).mono ?_); rintro e w2 hq; obtain ⟨A2, N2, c2, rfl, p1, p2, p3, p4, p5⟩ := row_of_byr hq; have HP2 := Aside0.mk (And.intro p1 p3); have HQ2 := Aside0.mk (And.intro p2 (And.intro (HQ1.out.2.1.trans (p4.mono HQ1.out.2.1.size)) (p5.mono HQ1.out.2.1.size))); clear p1 p2 p3 p4 p5 hq))
  go_ret
  exact unt_of_row ⟨_, _, _, rfl, HP2.out.1, HQ2.out.1, HP2.out.2, HQ2.out.2.1, HQ2.out.2.2⟩
set_option maxHeartbeats 4000000 in
set_option maxRecDepth 100000 in
theorem unit_7 {c : List Nat} (hc : Chr c) (w : World) (hT : Tz w) : Calls Tryd.prog 59 #[.int .u8 7, .int .i32 (val c : Int)] w (Unt (unitOf 7 c) w) := by
  have hin : inner 7 c = jsU c := rfl
  have hun : unitOf 7 c = inner 7 c := rfl
  have hsm := inner_small (kind := 7) hc
  have hln := inner_len (kind := 7) hc
  rw [hun]
  rw [hin] at hsm hln ⊢
  obtain ⟨W2, N0, c0, A0, hcv, hr2, hb2, -⟩ := string_row w w (bs c) c rfl (chr_small hc) (by have := chr_len hc; omega) (Below.refl _ _)
  have hru := rune_string c hc w
  have HC := Aside0.mk hc
  have HT := Aside0.mk hT
  have HR2 := Aside0.mk hr2
  have HB2 := Aside0.mk hb2
  have HP0 := Aside0.mk (And.intro (rdb_len hr2) (rdb_C hr2))
  have HS := Aside0.mk (And.intro hsm (show _ ≤ 1000 from Nat.le_trans hln (by decide)))
  obtain ⟨r, hr⟩ : ∃ r, r = val c := ⟨_, rfl⟩
  have HV := Aside0.mk hr
  rw [← hr] at hru ⊢
  clear hc hT hr2 hb2 hr hin hun hsm hln
  go_enter Tryd.func59, Tryd.ntmps59
  go_wp2_with (first
    | (go_at_call 85; (with_reducible refine (js_at HC.out ?hx _ (HT.out.below HB2.out)).mono ?_); (case hx => exact congrArg _ HV.out); rintro e w1 hq; obtain ⟨A1, N1, c1, rfl, p1, p2, p3, p4, p5⟩ := row_of_unt hq; have HP1 := Aside0.mk (And.intro p1 p3); have HQ1 := Aside0.mk (And.intro p2 (And.intro (HB2.out.trans (p4.mono HB2.out.size)) (p5.mono HB2.out.size))); clear p1 p2 p3 p4 p5 hq))
  go_ret
  exact unt_of_row ⟨_, _, _, rfl, HP1.out.1, HQ1.out.1, HP1.out.2, HQ1.out.2.1, HQ1.out.2.2⟩
set_option maxHeartbeats 4000000 in
set_option maxRecDepth 100000 in
theorem unit_8 {c : List Nat} (hc : Chr c) (w : World) (hT : Tz w) : Calls Tryd.prog 59 #[.int .u8 8, .int .i32 (val c : Int)] w (Unt (unitOf 8 c) w) := by
  have hin : inner 8 c = jsU c := rfl
  have hun : unitOf 8 c = eachU htmlU (inner 8 c) := rfl
  have hsm := inner_small (kind := 8) hc
  have hln := inner_len (kind := 8) hc
  rw [hun]
  rw [hin] at hsm hln ⊢
  obtain ⟨W2, N0, c0, A0, hcv, hr2, hb2, -⟩ := string_row w w (bs c) c rfl (chr_small hc) (by have := chr_len hc; omega) (Below.refl _ _)
  have hru := rune_string c hc w
  have HC := Aside0.mk hc
  have HT := Aside0.mk hT
  have HR2 := Aside0.mk hr2
  have HB2 := Aside0.mk hb2
  have HP0 := Aside0.mk (And.intro (rdb_len hr2) (rdb_C hr2))
  have HS := Aside0.mk (And.intro hsm (show _ ≤ 1000 from Nat.le_trans hln (by decide)))
  obtain ⟨r, hr⟩ : ∃ r, r = val c := ⟨_, rfl⟩
  have HV := Aside0.mk hr
  rw [← hr] at hru ⊢
  clear hc hT hr2 hb2 hr hin hun hsm hln
  go_enter Tryd.func59, Tryd.ntmps59
  go_wp2_with (first
    | (go_at_call 85; (with_reducible refine (js_at HC.out ?hx _ (HT.out.below HB2.out)).mono ?_); (case hx => exact congrArg _ HV.out); rintro e w1 hq; obtain ⟨A1, N1, c1, rfl, p1, p2, p3, p4, p5⟩ := row_of_unt hq; have HP1 := Aside0.mk (And.intro p1 p3); have HQ1 := Aside0.mk (And.intro p2 (And.intro (HB2.out.trans (p4.mono HB2.out.size)) (p5.mono HB2.out.size))); clear p1 p2 p3 p4 p5 hq)
    | (go_at_call 82; (with_reducible refine (each_87 (jsU c) HS.out.1 HS.out.2 _ (HT.out.below HQ1.out.2.1) A1 N1 c1 HP1.out.1 HP1.out.2).mono ?_); rintro e w2 hq; obtain ⟨A2, N2, c2, rfl, p1, p2, p3, p4, p5⟩ := row_of_byr hq; have HP2 := Aside0.mk (And.intro p1 p3); have HQ2 := Aside0.mk (And.intro p2 (And.intro (HQ1.out.2.1.trans (p4.mono HQ1.out.2.1.size)) (p5.mono HQ1.out.2.1.size))); clear p1 p2 p3 p4 p5 hq))
  go_ret
  exact unt_of_row ⟨_, _, _, rfl, HP2.out.1, HQ2.out.1, HP2.out.2, HQ2.out.2.1, HQ2.out.2.2⟩
set_option maxHeartbeats 4000000 in
set_option maxRecDepth 100000 in
theorem unit_9 {c : List Nat} (hc : Chr c) (w : World) (hT : Tz w) : Calls Tryd.prog 59 #[.int .u8 9, .int .i32 (val c : Int)] w (Unt (unitOf 9 c) w) := by
  have hin : inner 9 c = eachU cssU c := rfl
  have hun : unitOf 9 c = inner 9 c := rfl
  have hsm := inner_small (kind := 9) hc
  have hln := inner_len (kind := 9) hc
  rw [hun]
  rw [hin] at hsm hln ⊢
  obtain ⟨W2, N0, c0, A0, hcv, hr2, hb2, -⟩ := string_row w w (bs c) c rfl (chr_small hc) (by have := chr_len hc; omega) (Below.refl _ _)
  have hru := rune_string c hc w
  have HC := Aside0.mk hc
  have HT := Aside0.mk hT
  have HR2 := Aside0.mk hr2
  have HB2 := Aside0.mk hb2
  have HP0 := Aside0.mk (And.intro (rdb_len hr2) (rdb_C hr2))
  have HS := Aside0.mk (And.intro hsm (show _ ≤ 1000 from Nat.le_trans hln (by decide)))
  obtain ⟨r, hr⟩ : ∃ r, r = val c := ⟨_, rfl⟩
  have HV := Aside0.mk hr
  rw [← hr] at hru ⊢
  clear hc hT hr2 hb2 hr hin hun hsm hln
  go_enter Tryd.func59, Tryd.ntmps59
  go_wp2_with (first
    | (go_at_call 82; (with_reducible refine (each_86 c (chr_small HC.out) (by have := chr_len HC.out; omega) _ (HT.out.below HB2.out) A0 N0 c0 HP0.out.1 HP0.out.2).mono ?_); rintro e w1 hq; obtain ⟨A1, N1, c1, rfl, p1, p2, p3, p4, p5⟩ := row_of_byr hq; have HP1 := Aside0.mk (And.intro p1 p3); have HQ1 := Aside0.mk (And.intro p2 (And.intro (HB2.out.trans (p4.mono HB2.out.size)) (p5.mono HB2.out.size))); clear p1 p2 p3 p4 p5 hq))
  go_ret
  exact unt_of_row ⟨_, _, _, rfl, HP1.out.1, HQ1.out.1, HP1.out.2, HQ1.out.2.1, HQ1.out.2.2⟩
set_option maxHeartbeats 4000000 in
set_option maxRecDepth 100000 in
theorem unit_10 {c : List Nat} (hc : Chr c) (w : World) (hT : Tz w) : Calls Tryd.prog 59 #[.int .u8 10, .int .i32 (val c : Int)] w (Unt (unitOf 10 c) w) := by
  have hin : inner 10 c = eachU cssU c := rfl
  have hun : unitOf 10 c = eachU htmlU (inner 10 c) := rfl
  have hsm := inner_small (kind := 10) hc
  have hln := inner_len (kind := 10) hc
  rw [hun]
  rw [hin] at hsm hln ⊢
  obtain ⟨W2, N0, c0, A0, hcv, hr2, hb2, -⟩ := string_row w w (bs c) c rfl (chr_small hc) (by have := chr_len hc; omega) (Below.refl _ _)
  have hru := rune_string c hc w
  have HC := Aside0.mk hc
  have HT := Aside0.mk hT
  have HR2 := Aside0.mk hr2
  have HB2 := Aside0.mk hb2
  have HP0 := Aside0.mk (And.intro (rdb_len hr2) (rdb_C hr2))
  have HS := Aside0.mk (And.intro hsm (show _ ≤ 1000 from Nat.le_trans hln (by decide)))
  obtain ⟨r, hr⟩ : ∃ r, r = val c := ⟨_, rfl⟩
  have HV := Aside0.mk hr
  rw [← hr] at hru ⊢
  clear hc hT hr2 hb2 hr hin hun hsm hln
  go_enter Tryd.func59, Tryd.ntmps59
  go_wp2_with (first
    | (go_at_call 82; (with_reducible refine (each_86 c (chr_small HC.out) (by have := chr_len HC.out; omega) _ (HT.out.below HB2.out) A0 N0 c0 HP0.out.1 HP0.out.2).mono ?_); rintro e w1 hq; obtain ⟨A1, N1, c1, rfl, p1, p2, p3, p4, p5⟩ := row_of_byr hq; have HP1 := Aside0.mk (And.intro p1 p3); have HQ1 := Aside0.mk (And.intro p2 (And.intro (HB2.out.trans (p4.mono HB2.out.size)) (p5.mono HB2.out.size))); clear p1 p2 p3 p4 p5 hq)
    | (go_at_call 82; (with_reducible refine (each_87 (eachU cssU c) HS.out.1 HS.out.2 _ (HT.out.below HQ1.out.2.1) A1 N1 c1 HP1.out.1 HP1.out.2).mono ?_); rintro e w2 hq; obtain ⟨A2, N2, c2, rfl, p1, p2, p3, p4, p5⟩ := row_of_byr hq; have HP2 := Aside0.mk (And.intro p1 p3); have HQ2 := Aside0.mk (And.intro p2 (And.intro (HQ1.out.2.1.trans (p4.mono HQ1.out.2.1.size)) (p5.mono HQ1.out.2.1.size))); clear p1 p2 p3 p4 p5 hq))
  go_ret
  exact unt_of_row ⟨_, _, _, rfl, HP2.out.1, HQ2.out.1, HP2.out.2, HQ2.out.2.1, HQ2.out.2.2⟩
theorem unit_calls {kind : Nat} (h1 : 1 ≤ kind) (h2 : kind ≤ 10) {c : List Nat} (hc : Chr c) (w : World) (hT : Tz w) : Calls Tryd.prog 59 #[.int .u8 (kind : Int), .int .i32 (val c : Int)] w (Unt (unitOf kind c) w) := by
  have : kind = 1 ∨ kind = 2 ∨ kind = 3 ∨ kind = 4 ∨ kind = 5 ∨ kind = 6 ∨ kind = 7 ∨ kind = 8 ∨ kind = 9 ∨ kind = 10 := by omega
  rcases this with rfl | rfl | rfl | rfl | rfl | rfl | rfl | rfl | rfl | rfl
  · exact unit_1 hc w hT
  · exact unit_2 hc w hT
  · exact unit_3 hc w hT
  · exact unit_4 hc w hT
  · exact unit_5 hc w hT
  · exact unit_6 hc w hT
  · exact unit_7 hc w hT
  · exact unit_8 hc w hT
  · exact unit_9 hc w hT
  · exact unit_10 hc w hT
end Go.Proofs.YtfplocpjdjjoaaaDoor.Cut
