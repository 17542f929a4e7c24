/- The contract of spread.New where keys, nodes and sizes are right: the edges' error, or the net. -/
import Derived.Test.YtbcehnhiedbbbaaDoorSpD
import Derived.Deep.LoopGhost
set_option linter.unusedVariables false
set_option linter.unusedSimpArgs false
namespace Go.Proofs.YtbcehnhiedbbbaaDoor
open Go.RowKit
theorem info_ntN : (Tryd.prog.info? 23).map (fun i => (i.zero, i.size, i.bytes)) = some (some (.agg zCs), 4, 40) := by kernel_rfl
theorem info_ntsN : (Tryd.prog.info? 41).map (fun i => (i.zero, i.size, i.bytes)) = some (some (.slice none 0 0), 1, 24) := by kernel_rfl
theorem make_ntN (n : Nat) (hn : n ≤ 8) (w : World) : (Instr.makeSlice 41 (.int .i64 (n : Int)) (.int .i64 (n : Int))).run Tryd.prog w = .ok (.slice (some ⟨w.heap.size, 0, none⟩) n n) (w.alloc (.cells (madeCells zCs (n * 4)) 23)) := by
  obtain ⟨i, hi, hzz⟩ := Option.map_eq_some_iff.1 info_ntN
  simp only [Prod.mk.injEq] at hzz
  obtain ⟨hz, hs, hb⟩ := hzz
  have h := run_makeSlice (P := Tryd.prog) (w := w) 41 23 i _ Tryd.underlying41 hi hz .i64 .i64 n n (by omega) (by omega) (by rw [hs]; simp; omega) (by rw [hb]; omega) (by omega)
  rw [h, hs]
  simp [Value.cells, zCs]
theorem ixE0 (x y : Int) : ∀ w, (Instr.index 45 (.agg #[.int .i64 x, .int .i64 y]) (.int .i64 0)).run Tryd.prog w = .ok (.int .i64 x) w := fun w => by kernel_rfl
theorem ixE1 (x y : Int) : ∀ w, (Instr.index 45 (.agg #[.int .i64 x, .int .i64 y]) (.int .i64 1)).run Tryd.prog w = .ok (.int .i64 y) w := fun w => by kernel_rfl
theorem own_slN {w : World} {B : Nat} {e : TypeId} {sz : Nat} {v : Value} {n : Nat} {xs : List Value} (h : w.ownsRow B e sz v n xs) : ∃ a m c, v = .slice a m c := by
  rcases h.2 with ⟨rfl, -⟩ | ⟨g, cap, cur, rfl, -⟩
  · exact ⟨_, _, _, rfl⟩
  · exact ⟨_, _, _, rfl⟩
theorem c_CloneS (a : Option Addr) (c : Nat) (K : List Int) (w : World) (hs : IntSlice w a K) (h8 : K.length ≤ 8) :
    Calls Tryd.prog 46 #[.slice a K.length c] w fun e w' => ∃ va vm vc, e = .returned (.slice va vm vc) ∧ w'.ownsRow w.heap.size 3 1 (.slice va vm vc) K.length (icells K) ∧ Below w.heap.size w w' :=
  (c_CloneK a c K w hs h8).mono fun e w' ⟨v, h1, h2, h3⟩ => by
    obtain ⟨x, y, z, rfl⟩ := own_slN h2
    exact ⟨x, y, z, h1, h2, h3⟩
theorem nearL_len (E : List Ed) (m : Nat) (i : Int) (h : E.length ≤ 40) : (nearL (E.take m) i).length ≤ 80 := by
  have key : ∀ E : List Ed, (nearL E i).length ≤ E.length := by
    intro E
    induction E with
    | nil => exact Nat.le_refl _
    | cons e E ih =>
      have e1 : nearL (e :: E) i = (if e.p = i then [e.q] else if e.q = i then [e.p] else []) ++ nearL E i := by simp [nearL]
      rw [e1, List.length_append, List.length_cons]
      have : (if e.p = i then [e.q] else if e.q = i then [e.p] else []).length ≤ 1 := by
        split
        · exact Nat.le_refl _
        · split
          · exact Nat.le_refl _
          · exact Nat.zero_le _
      omega
  have := key (E.take m)
  rw [List.length_take] at this
  omega
def edOk (nd : Nat) (e : Ed) : Prop := (0 ≤ e.p ∧ e.p < (nd : Int)) ∧ (0 ≤ e.q ∧ e.q < (nd : Int))
/-- What New answers: the error of the edges, or a net. -/
def NewOut (w : World) (K : List Int) (nd : Nat) (E : List Ed) (e : Ending) (w' : World) : Prop :=
  ((∃ x ∈ E, ¬ edOk nd x) ∧ e = .returned (.tuple #[.pointer none, .int .i64 3]) ∧ Below w.heap.size w w') ∨
  ((∀ x ∈ E, edOk nd x) ∧ ∃ nb vk vn vh rb, e = .returned (.tuple #[.pointer (some ⟨nb, 0, none⟩), .int .i64 0]) ∧ NetAt w' w.heap.size nb vk vn vh K ((List.range nd).map fun i : Nat => nearL E (i : Int)) (List.replicate nd (List.replicate K.length zNt)) rb ∧ w.heap.size ≤ nb ∧ Below w.heap.size w w')
set_option maxRecDepth 100000 in
set_option maxHeartbeats 4000000 in
theorem c_New_net (ka ea : Option Addr) (kc ec : Nat) (K : List Int) (E : List Ed) (nd : Nat) (w : World) (hs : IntSlice w ka K) (hes : EdSlice w ea E) (h8 : K.length ≤ 8) (h1 : 1 ≤ nd) (h12 : nd ≤ 12) (h40 : E.length ≤ 40) (hk : K.any badK = false) :
    Calls Tryd.prog 21 #[.slice ka K.length kc, .int .i64 (nd : Int), .slice ea E.length ec] w (NewOut w K nd E) := by
  have d1 := decide_eq_false (show ¬ (8 : Int) < (K.length : Int) by omega)
  have d2 := decide_eq_false (show ¬ (12 : Int) < (nd : Int) by omega)
  have d3 := decide_eq_false (show ¬ (40 : Int) < (E.length : Int) by omega)
  have d4 := decide_eq_false (show ¬ (nd : Int) < 1 by omega)
  have hmk1 := run_make_row' (P := Tryd.prog) 55 39 (.slice none 0 0) 24 Tryd.underlying55 info_intsN rfl .i64 .i64 nd (by omega) (by omega)
  have HS := Lib.hid hs
  have HE := Lib.hid hes
  have HC := Lib.hid (fun w1 h => c_CloneS ka kc K w1 h h8)
  clear hs hes
  have hgen := sgen; have hgen2 := sgen2; have hgen3 := sgen3; go_enter Tryd.func21, Tryd.ntmps21
  go_upto_region 7 with (go_at_call 44; (refine (c_ContainsK ka kc K _ HS.out h8).mono ?_); rintro e w' ⟨rfl, rfl⟩)
  go_cut [8] (fun x wc => ∃ nb ob vk, x = .pointer (some ⟨nb, 0, none⟩) ∧ NwAt wc w.heap.size nb ob vk (.slice none 0 0) K nd (fun _ => []) (List.replicate nd (.slice none 0 0)) ∧ w.heap.size ≤ nb ∧ Below w.heap.size w wc)
  case first =>
    go_region_with (go_at_call 46; (with_reducible refine (HC.out _ (HS.out.below (Nat.le_refl _) (by exact belz))).mono ?_); rintro e w1 ⟨va, vm, vc, rfl, hown, hb⟩; have hz := hb.size; (try simp only [szA, szS, szD, szN] at hz); (try (refine bcB (n := w.heap.size) hb ?_; intro h_w_0 e_w_0 d_w_0 _ _)); (try (refine bcB (n := w.heap.size + 1) hb ?_; intro h_w_1 e_w_1 d_w_1 _ _)))
    · go_step
      apply_assumption
      refine Met.intro ?_
      apply_assumption
      (repeat apply Exists.intro)
      refine ⟨?_, rfl⟩
      have s1 : (w1.alloc (.cells (madeCells #[Value.slice none 0 0] nd) 39)).heap.size = w1.heap.size + 1 := by simp
      refine ⟨w1.heap.size + 1, w1.heap.size, .slice va vm vc, rfl, NwAt.made ?_ ?_ (by simpa using hz) ((own_base2 hown (by simp)).alloc _ |>.alloc _) h12, by omega, ?_⟩
      · have e := heap_alloc_new (w1.alloc (.cells (madeCells #[Value.slice none 0 0] nd) 39)) (.cells #[Value.slice va vm vc, Value.slice (some ⟨w1.heap.size, 0, none⟩) nd nd, Value.slice none 0 0] 97)
        rw [s1] at e
        exact e
      · exact (Below.heap_alloc _ _ _ (by rw [s1]; omega)).trans (heap_alloc_new w1 _)
      · exact belz
    · go_step
      apply_assumption
      refine Met.intro ?_
      apply_assumption
      (repeat apply Exists.intro)
      refine ⟨?_, rfl⟩
      refine ⟨w1.heap.size, w.heap.size, .slice va vm vc, rfl, NwAt.made ?_ ?_ (Nat.le_refl _) ((own_base2 hown (by simp)).alloc _) h12, by omega, ?_⟩
      · exact heap_alloc_new w1 _
      · refine (Below.heap_alloc _ _ _ (by omega)).trans ((hb.block w.heap.size (by simp)).trans ?_)
        exact heap_alloc_new w _
      · exact belz
  case rest =>
    obtain ⟨nb, ob, vk, rfl, hnw, hnbB, hbc⟩ := hcut
    clear hmk1 HC HS
    obtain ⟨w0, rfl⟩ : ∃ w0 : World, w0 = wc := ⟨_, rfl⟩
    have HN0 := Lib.hid hnw
    have HB0 := Lib.hid hbc
    have hz0 := hbc.size
    clear hnw hbc
    go_wp2_with fail
    go_loopg [37] E.length (fun gk x37 wr => ∃ (m : Nat) (xs : List Value), gk + m = E.length ∧ x37 = .int .i64 m ∧ NwAt wr w.heap.size nb ob vk (.slice none 0 0) K nd (fun i => nearL (E.take m) (i : Int)) xs ∧ (∀ j (h : j < E.length), j < m → edOk nd E[j]) ∧ Below w.heap.size w wr)
    case atStart => exact ⟨0, _, by omega, rfl, HN0.out, fun j _ h => absurd h (Nat.not_lt_zero j), HB0.out⟩
    case round =>
      obtain ⟨m, xs, hm, rfl, hnw, hok, hbel⟩ := hrel
      have HNw := Lib.hid hnw
      have HOk := Lib.hid hok
      clear hnw hok
      have hzr := hbel.size
      by_cases hlt : m < E.length
      · obtain ⟨bb, off, hea, hbb, y0, y1⟩ := HE.out m hlt
        have ixe := @ix_Ed ea bb off E.length ec m hea hlt
        clear hea
        have q0 := (hbel.cell (p := ⟨bb, off + m * 2, none⟩) hbb).trans y0
        have q1 := (hbel.cell (p := ⟨bb, off + m * 2 + 1, none⟩) hbb).trans y1
        have HMem := Lib.hid (List.getElem_mem hlt)
        have hx : ∃ x, E[m] = x := ⟨_, rfl⟩
        obtain ⟨x, hx⟩ := hx
        rw [hx] at q0 q1 HMem
        have HX := Lib.hid hx
        clear y0 y1 hx
        obtain ⟨p, q⟩ := x
        dsimp only at q0 q1
        have hbb2 : bb < wr.heap.size := by omega
        obtain ⟨wo, rfl⟩ : ∃ wo : World, wo = wr := ⟨_, rfl⟩
        go_wp2_with fail
        go_loopg [42] 2 (fun gk x42 wq => ∃ kk : Int, gk + kk.toNat = 2 ∧ 0 ≤ kk ∧ x42 = .int .i64 kk ∧ ((1 ≤ kk → 0 ≤ p ∧ p < (nd : Int)) ∧ (2 ≤ kk → 0 ≤ q ∧ q < (nd : Int))) ∧ Below wo.heap.size wo wq ∧ wq.cell? ⟨wo.heap.size, 0, none⟩ = some (.int .i64 p) ∧ wq.cell? ⟨wo.heap.size, 1, none⟩ = some (.int .i64 q) ∧ wo.heap.size < wq.heap.size)
        case atStart => exact ⟨0, by omega, by omega, rfl, ⟨fun h => by omega, fun h => by omega⟩, by exact belz, by go_simp, by go_simp, by simp⟩
        case round =>
          obtain ⟨kk, hkk, hk0, rfl, hpq, hbq, e0, e1, hsq⟩ := hrel
          have hcs : kk = 0 ∨ kk = 1 ∨ kk = 2 := by omega
          rcases hcs with hk0 | hk1 | hk2
          · subst hk0
            have ixk := ixE0 p q
            by_cases hz1 : p < 0
            · have t1 := decide_eq_true hz1
              go_wp2_with fail
              go_ret2
              exact .inl ⟨⟨_, HMem.out, fun h => by have h1 := h.1; dsimp only at h1; omega⟩, rfl, hbel.trans (hbq.mono hzr)⟩
            · have t1 := decide_eq_false hz1
              by_cases hz2 : (nd : Int) ≤ p
              · have t2 := decide_eq_true hz2
                go_wp2_with fail
                go_ret2
                exact .inl ⟨⟨_, HMem.out, fun h => by have h1 := h.1; dsimp only at h1; omega⟩, rfl, hbel.trans (hbq.mono hzr)⟩
              · have t2 := decide_eq_false hz2
                go_wp2_with fail
                go_roundg (1)
                case measure => omega
                case rel => exact ⟨1, by omega, by omega, rfl, ⟨fun _ => ⟨by omega, by omega⟩, fun h => by omega⟩, by exact belz, by assumption, by assumption, by assumption⟩
          · subst hk1
            have ixk := ixE1 p q
            by_cases hz1 : q < 0
            · have t1 := decide_eq_true hz1
              go_wp2_with fail
              go_ret2
              exact .inl ⟨⟨_, HMem.out, fun h => by have h1 := h.2; dsimp only at h1; omega⟩, rfl, hbel.trans (hbq.mono hzr)⟩
            · have t1 := decide_eq_false hz1
              by_cases hz2 : (nd : Int) ≤ q
              · have t2 := decide_eq_true hz2
                go_wp2_with fail
                go_ret2
                exact .inl ⟨⟨_, HMem.out, fun h => by have h1 := h.2; dsimp only at h1; omega⟩, rfl, hbel.trans (hbq.mono hzr)⟩
              · have t2 := decide_eq_false hz2
                go_wp2_with fail
                go_roundg (0)
                case measure => omega
                case rel => exact ⟨2, by omega, by omega, rfl, ⟨fun _ => hpq.1 (by omega), fun _ => ⟨by omega, by omega⟩⟩, by exact belz, by assumption, by assumption, by assumption⟩
          · subst hk2
            obtain ⟨hp0, hp1⟩ := hpq.1 (by omega)
            obtain ⟨hq0, hq1⟩ := hpq.2 (by omega)
            obtain ⟨pn, rfl⟩ : ∃ pn : Nat, p = (pn : Int) := ⟨p.toNat, by omega⟩
            obtain ⟨qn, rfl⟩ : ∃ qn : Nat, q = (qn : Int) := ⟨q.toNat, by omega⟩
            have hpn : pn < nd := by omega
            have hqn : qn < nd := by omega
            obtain ⟨f, hf⟩ : ∃ f : Nat → List Int, f = fun i : Nat => nearL (E.take m) (i : Int) := ⟨_, rfl⟩
            have hfl : ∀ i, (f i).length ≤ 80 := fun i => by rw [hf]; exact nearL_len E m (i : Int) h40
            have hf' : ∀ i : Nat, nearL (E.take (m + 1)) (i : Int) = f i ++ if (pn : Int) = (i : Int) then [(qn : Int)] else if (qn : Int) = (i : Int) then [(pn : Int)] else [] := fun i => by
              rw [List.take_succ_eq_append_getElem hlt, HX.out, nearL_snoc, hf]
            have hN0 := HNw.out
            rw [← hf] at hN0
            have hBd : Below wo.heap.size wo wr.drew := by exact belz
            have hN1 := hN0.kept hBd
            have HF := Lib.hid hf'
            have HOkn := Lib.hid (show ∀ j (h : j < E.length), j < m + 1 → edOk nd E[j] from fun j h1 h2 => by
              by_cases hj : j < m
              · exact HOk.out j h1 hj
              · obtain rfl : j = m := by omega
                rw [HX.out]; exact ⟨⟨hp0, hp1⟩, ⟨hq0, hq1⟩⟩)
            have HL := Lib.hid hfl
            have hbel2 := hbel.trans (hBd.mono hzr)
            have hszd : wo.heap.size < wr.drew.heap.size := by simpa using hsq
            clear HNw hf hf' hfl ixe q0 q1 hpq hbel hBd
            obtain ⟨vp, xp, op⟩ := hN0.row pn hpn
            obtain ⟨vq, xq, oq⟩ := hN0.row qn hqn
            obtain ⟨pa, pc, rfl⟩ := own_len op
            obtain ⟨qa, qc, rfl⟩ := own_len oq
            have hvp := Lib.hid (own_lt op)
            have hvq := Lib.hid (own_lt oq)
            have r1 := hN1.c1
            have rp := (hN1.near.cellAt pn (by omega)).trans xp
            have rq := (hN1.near.cellAt qn (by omega)).trans xq
            have ixp := @ix_Row (some ⟨ob, 0, none⟩) ob 0 nd nd pn rfl hpn
            have ixq := @ix_Row (some ⟨ob, 0, none⟩) ob 0 nd nd qn rfl hqn
            simp only [Nat.zero_add] at ixp ixq
            have hob0 := (own_lt hN0.near ob rfl).2
            have hnb0 := hN0.lt
            have n1 : ¬ nb = ob := fun e => by
              obtain ⟨cur, hc⟩ := hN1.ty
              obtain ⟨-, cur2, hc2⟩ := own_typ hN1.near ob rfl
              rw [e, hc2] at hc
              injection hc with hc
              injection hc with _ hc
              exact absurd hc (by decide)
            have n2 : ¬ ob = nb := fun e => n1 e.symm
            have n3 : ¬ wo.heap.size = ob := by omega
            have n4 : ¬ ob = wo.heap.size := by omega
            have HN1 := Lib.hid hN1
            have HB1 := Lib.hid hbel2
            obtain ⟨i0, hi0, iz0, iz1, iz2⟩ := info_parts info_intN
            have e0d : wr.drew.cell? ⟨wo.heap.size, 0, none⟩ = some (.int .i64 (pn : Int)) := by go_simp
            have e1d : wr.drew.cell? ⟨wo.heap.size, 1, none⟩ = some (.int .i64 (qn : Int)) := by go_simp
            clear hN1 op oq hN0 hbel2
            go_upto_region 17 with fail
            refine wp_region_held_drew (S := fun w' => w'.cell? ⟨nb, 1, none⟩ = some (.slice (some ⟨ob, 0, none⟩) nd nd) ∧ w'.cell? ⟨wo.heap.size, 0, none⟩ = some (.int .i64 (pn : Int)) ∧ w'.cell? ⟨wo.heap.size, 1, none⟩ = some (.int .i64 (qn : Int))) (by kernel_rfl) ⟨r1, e0d, e1d⟩ ?_
            intro hS0
            (refine wpAnyH_take (i := 0) (oi := { dst := some 53, op := Op.move (Operand.tmp 8), type := 42, pos := "spread.go:36", after := #[], guard := none }) (v := ?_) rfl (by kernel_rfl) (by kernel_rfl) (by kernel_rfl) (fun _ _ _ h => h) (Or.inl ⟨by rfl, ?_⟩) (by assumption) ?_; rotate_left; (focus (intro w hSw; (try dsimp only at hSw); go_simp; (try with_reducible rfl))); (try simp only [Act.put, List.setIfInBounds_toArray, List.set_cons_zero, List.set_cons_succ]))
            (refine wpAnyH_take (i := 1) (oi := { dst := some 54, op := Op.nilCheck (Operand.tmp 53), type := 0, pos := "spread.go:36", after := #[{ on := 0, ground := Ground.data }], guard := none }) (v := ?_) rfl (by kernel_rfl) (by kernel_rfl) (by kernel_rfl) (fun _ _ _ h => h) (Or.inl ⟨by rfl, ?_⟩) (by assumption) ?_; rotate_left; (focus (intro w hSw; (try dsimp only at hSw); go_simp; (try with_reducible rfl))); (try simp only [Act.put, List.setIfInBounds_toArray, List.set_cons_zero, List.set_cons_succ]))
            (refine wpAnyH_take (i := 2) (oi := { dst := some 55, op := Op.fieldAddr 97 (Operand.tmp 54) 1, type := 0, pos := "spread.go:36", after := #[{ on := 1, ground := Ground.data }], guard := none }) (v := ?_) rfl (by kernel_rfl) (by kernel_rfl) (by kernel_rfl) (fun _ _ _ h => h) (Or.inl ⟨by rfl, ?_⟩) (by assumption) ?_; rotate_left; (focus (intro w hSw; (try dsimp only at hSw); go_simp; (try with_reducible rfl))); (try simp only [Act.put, List.setIfInBounds_toArray, List.set_cons_zero, List.set_cons_succ]))
            (refine wpAnyH_take (i := 3) (oi := { dst := some 56, op := Op.load 55 (Operand.tmp 55), type := 55, pos := "spread.go:36", after := #[{ on := 2, ground := Ground.data }], guard := none }) (v := ?_) rfl (by kernel_rfl) (by kernel_rfl) (by kernel_rfl) (fun _ _ _ h => h) (Or.inl ⟨by rfl, ?_⟩) (by assumption) ?_; rotate_left; (focus (intro w hSw; (try dsimp only at hSw); go_simp; (try with_reducible rfl))); (try simp only [Act.put, List.setIfInBounds_toArray, List.set_cons_zero, List.set_cons_succ]))
            (refine wpAnyH_take (i := 4) (oi := { dst := some 57, op := Op.indexAddr 45 (Operand.tmp 10) (Operand.const (Value.int IntKind.i64 0)), type := 0, pos := "spread.go:36", after := #[], guard := none }) (v := ?_) rfl (by kernel_rfl) (by kernel_rfl) (by kernel_rfl) (fun _ _ _ h => h) (Or.inl ⟨by rfl, ?_⟩) (by assumption) ?_; rotate_left; (focus (intro w hSw; (try dsimp only at hSw); go_simp; (try with_reducible rfl))); (try simp only [Act.put, List.setIfInBounds_toArray, List.set_cons_zero, List.set_cons_succ]))
            (refine wpAnyH_take (i := 5) (oi := { dst := some 58, op := Op.load 3 (Operand.tmp 57), type := 3, pos := "spread.go:36", after := #[{ on := 4, ground := Ground.data }], guard := none }) (v := ?_) rfl (by kernel_rfl) (by kernel_rfl) (by kernel_rfl) (fun _ _ _ h => h) (Or.inl ⟨by rfl, ?_⟩) (by assumption) ?_; rotate_left; (focus (intro w hSw; (try dsimp only at hSw); go_simp; (try with_reducible rfl))); (try simp only [Act.put, List.setIfInBounds_toArray, List.set_cons_zero, List.set_cons_succ]))
            (refine wpAnyH_take (i := 6) (oi := { dst := some 59, op := Op.move (Operand.tmp 8), type := 42, pos := "spread.go:36", after := #[], guard := none }) (v := ?_) rfl (by kernel_rfl) (by kernel_rfl) (by kernel_rfl) (fun _ _ _ h => h) (Or.inl ⟨by rfl, ?_⟩) (by assumption) ?_; rotate_left; (focus (intro w hSw; (try dsimp only at hSw); go_simp; (try with_reducible rfl))); (try simp only [Act.put, List.setIfInBounds_toArray, List.set_cons_zero, List.set_cons_succ]))
            (refine wpAnyH_take (i := 7) (oi := { dst := some 60, op := Op.nilCheck (Operand.tmp 59), type := 0, pos := "spread.go:36", after := #[{ on := 6, ground := Ground.data }], guard := none }) (v := ?_) rfl (by kernel_rfl) (by kernel_rfl) (by kernel_rfl) (fun _ _ _ h => h) (Or.inl ⟨by rfl, ?_⟩) (by assumption) ?_; rotate_left; (focus (intro w hSw; (try dsimp only at hSw); go_simp; (try with_reducible rfl))); (try simp only [Act.put, List.setIfInBounds_toArray, List.set_cons_zero, List.set_cons_succ]))
            (refine wpAnyH_take (i := 8) (oi := { dst := some 61, op := Op.fieldAddr 97 (Operand.tmp 60) 1, type := 0, pos := "spread.go:36", after := #[{ on := 7, ground := Ground.data }], guard := none }) (v := ?_) rfl (by kernel_rfl) (by kernel_rfl) (by kernel_rfl) (fun _ _ _ h => h) (Or.inl ⟨by rfl, ?_⟩) (by assumption) ?_; rotate_left; (focus (intro w hSw; (try dsimp only at hSw); go_simp; (try with_reducible rfl))); (try simp only [Act.put, List.setIfInBounds_toArray, List.set_cons_zero, List.set_cons_succ]))
            (refine wpAnyH_take (i := 9) (oi := { dst := some 62, op := Op.load 55 (Operand.tmp 61), type := 55, pos := "spread.go:36", after := #[{ on := 8, ground := Ground.data }], guard := none }) (v := ?_) rfl (by kernel_rfl) (by kernel_rfl) (by kernel_rfl) (fun _ _ _ h => h) (Or.inl ⟨by rfl, ?_⟩) (by assumption) ?_; rotate_left; (focus (intro w hSw; (try dsimp only at hSw); go_simp; (try with_reducible rfl))); (try simp only [Act.put, List.setIfInBounds_toArray, List.set_cons_zero, List.set_cons_succ]))
            (refine wpAnyH_take (i := 10) (oi := { dst := some 63, op := Op.indexAddr 45 (Operand.tmp 10) (Operand.const (Value.int IntKind.i64 1)), type := 0, pos := "spread.go:36", after := #[], guard := none }) (v := ?_) rfl (by kernel_rfl) (by kernel_rfl) (by kernel_rfl) (fun _ _ _ h => h) (Or.inl ⟨by rfl, ?_⟩) (by assumption) ?_; rotate_left; (focus (intro w hSw; (try dsimp only at hSw); go_simp; (try with_reducible rfl))); (try simp only [Act.put, List.setIfInBounds_toArray, List.set_cons_zero, List.set_cons_succ]))
            (refine wpAnyH_take (i := 11) (oi := { dst := some 64, op := Op.load 3 (Operand.tmp 63), type := 3, pos := "spread.go:36", after := #[{ on := 10, ground := Ground.data }], guard := none }) (v := ?_) rfl (by kernel_rfl) (by kernel_rfl) (by kernel_rfl) (fun _ _ _ h => h) (Or.inl ⟨by rfl, ?_⟩) (by assumption) ?_; rotate_left; (focus (intro w hSw; (try dsimp only at hSw); go_simp; (try with_reducible rfl))); (try simp only [Act.put, List.setIfInBounds_toArray, List.set_cons_zero, List.set_cons_succ]))
            (refine wpAnyH_take (i := 12) (oi := { dst := some 65, op := Op.move (Operand.tmp 8), type := 42, pos := "spread.go:36", after := #[], guard := none }) (v := ?_) rfl (by kernel_rfl) (by kernel_rfl) (by kernel_rfl) (fun _ _ _ h => h) (Or.inl ⟨by rfl, ?_⟩) (by assumption) ?_; rotate_left; (focus (intro w hSw; (try dsimp only at hSw); go_simp; (try with_reducible rfl))); (try simp only [Act.put, List.setIfInBounds_toArray, List.set_cons_zero, List.set_cons_succ]))
            (refine wpAnyH_take (i := 13) (oi := { dst := some 66, op := Op.nilCheck (Operand.tmp 65), type := 0, pos := "spread.go:36", after := #[{ on := 12, ground := Ground.data }], guard := none }) (v := ?_) rfl (by kernel_rfl) (by kernel_rfl) (by kernel_rfl) (fun _ _ _ h => h) (Or.inl ⟨by rfl, ?_⟩) (by assumption) ?_; rotate_left; (focus (intro w hSw; (try dsimp only at hSw); go_simp; (try with_reducible rfl))); (try simp only [Act.put, List.setIfInBounds_toArray, List.set_cons_zero, List.set_cons_succ]))
            (refine wpAnyH_take (i := 14) (oi := { dst := some 67, op := Op.fieldAddr 97 (Operand.tmp 66) 1, type := 0, pos := "spread.go:36", after := #[{ on := 13, ground := Ground.data }], guard := none }) (v := ?_) rfl (by kernel_rfl) (by kernel_rfl) (by kernel_rfl) (fun _ _ _ h => h) (Or.inl ⟨by rfl, ?_⟩) (by assumption) ?_; rotate_left; (focus (intro w hSw; (try dsimp only at hSw); go_simp; (try with_reducible rfl))); (try simp only [Act.put, List.setIfInBounds_toArray, List.set_cons_zero, List.set_cons_succ]))
            (refine wpAnyH_take (i := 15) (oi := { dst := some 68, op := Op.load 55 (Operand.tmp 67), type := 55, pos := "spread.go:36", after := #[{ on := 14, ground := Ground.data }], guard := none }) (v := ?_) rfl (by kernel_rfl) (by kernel_rfl) (by kernel_rfl) (fun _ _ _ h => h) (Or.inl ⟨by rfl, ?_⟩) (by assumption) ?_; rotate_left; (focus (intro w hSw; (try dsimp only at hSw); go_simp; (try with_reducible rfl))); (try simp only [Act.put, List.setIfInBounds_toArray, List.set_cons_zero, List.set_cons_succ]))
            (refine wpAnyH_take (i := 16) (oi := { dst := some 69, op := Op.indexAddr 45 (Operand.tmp 10) (Operand.const (Value.int IntKind.i64 0)), type := 0, pos := "spread.go:36", after := #[], guard := none }) (v := ?_) rfl (by kernel_rfl) (by kernel_rfl) (by kernel_rfl) (fun _ _ _ h => h) (Or.inl ⟨by rfl, ?_⟩) (by assumption) ?_; rotate_left; (focus (intro w hSw; (try dsimp only at hSw); go_simp; (try with_reducible rfl))); (try simp only [Act.put, List.setIfInBounds_toArray, List.set_cons_zero, List.set_cons_succ]))
            (refine wpAnyH_take (i := 17) (oi := { dst := some 70, op := Op.load 3 (Operand.tmp 69), type := 3, pos := "spread.go:36", after := #[{ on := 16, ground := Ground.data }], guard := none }) (v := ?_) rfl (by kernel_rfl) (by kernel_rfl) (by kernel_rfl) (fun _ _ _ h => h) (Or.inl ⟨by rfl, ?_⟩) (by assumption) ?_; rotate_left; (focus (intro w hSw; (try dsimp only at hSw); go_simp; (try with_reducible rfl))); (try simp only [Act.put, List.setIfInBounds_toArray, List.set_cons_zero, List.set_cons_succ]))
            (refine wpAnyH_take (i := 18) (oi := { dst := some 71, op := Op.indexAddr 55 (Operand.tmp 68) (Operand.tmp 70), type := 0, pos := "spread.go:36", after := #[{ on := 15, ground := Ground.data }, { on := 17, ground := Ground.data }], guard := none }) (v := ?_) rfl (by kernel_rfl) (by kernel_rfl) (by kernel_rfl) (fun _ _ _ h => h) (Or.inl ⟨by rfl, ?_⟩) (by assumption) ?_; rotate_left; (focus (intro w hSw; (try dsimp only at hSw); go_simp; (try with_reducible rfl))); (try simp only [Act.put, List.setIfInBounds_toArray, List.set_cons_zero, List.set_cons_succ]))
            (refine wpAnyH_take (i := 20) (oi := { dst := some 73, op := Op.indexAddr 45 (Operand.tmp 10) (Operand.const (Value.int IntKind.i64 1)), type := 0, pos := "spread.go:36", after := #[], guard := none }) (v := ?_) rfl (by kernel_rfl) (by kernel_rfl) (by kernel_rfl) (fun _ _ _ h => h) (Or.inl ⟨by rfl, ?_⟩) (by assumption) ?_; rotate_left; (focus (intro w hSw; (try dsimp only at hSw); go_simp; (try with_reducible rfl))); (try simp only [Act.put, List.setIfInBounds_toArray, List.set_cons_zero, List.set_cons_succ]))
            (refine wpAnyH_take (i := 21) (oi := { dst := some 74, op := Op.load 3 (Operand.tmp 73), type := 3, pos := "spread.go:36", after := #[{ on := 20, ground := Ground.data }], guard := none }) (v := ?_) rfl (by kernel_rfl) (by kernel_rfl) (by kernel_rfl) (fun _ _ _ h => h) (Or.inl ⟨by rfl, ?_⟩) (by assumption) ?_; rotate_left; (focus (intro w hSw; (try dsimp only at hSw); go_simp; (try with_reducible rfl))); (try simp only [Act.put, List.setIfInBounds_toArray, List.set_cons_zero, List.set_cons_succ]))
            (refine wpAnyH_take (i := 24) (oi := { dst := some 77, op := Op.move (Operand.tmp 8), type := 42, pos := "spread.go:36", after := #[], guard := none }) (v := ?_) rfl (by kernel_rfl) (by kernel_rfl) (by kernel_rfl) (fun _ _ _ h => h) (Or.inl ⟨by rfl, ?_⟩) (by assumption) ?_; rotate_left; (focus (intro w hSw; (try dsimp only at hSw); go_simp; (try with_reducible rfl))); (try simp only [Act.put, List.setIfInBounds_toArray, List.set_cons_zero, List.set_cons_succ]))
            (refine wpAnyH_take (i := 25) (oi := { dst := some 78, op := Op.nilCheck (Operand.tmp 77), type := 0, pos := "spread.go:36", after := #[{ on := 24, ground := Ground.data }], guard := none }) (v := ?_) rfl (by kernel_rfl) (by kernel_rfl) (by kernel_rfl) (fun _ _ _ h => h) (Or.inl ⟨by rfl, ?_⟩) (by assumption) ?_; rotate_left; (focus (intro w hSw; (try dsimp only at hSw); go_simp; (try with_reducible rfl))); (try simp only [Act.put, List.setIfInBounds_toArray, List.set_cons_zero, List.set_cons_succ]))
            (refine wpAnyH_take (i := 26) (oi := { dst := some 79, op := Op.fieldAddr 97 (Operand.tmp 78) 1, type := 0, pos := "spread.go:36", after := #[{ on := 25, ground := Ground.data }], guard := none }) (v := ?_) rfl (by kernel_rfl) (by kernel_rfl) (by kernel_rfl) (fun _ _ _ h => h) (Or.inl ⟨by rfl, ?_⟩) (by assumption) ?_; rotate_left; (focus (intro w hSw; (try dsimp only at hSw); go_simp; (try with_reducible rfl))); (try simp only [Act.put, List.setIfInBounds_toArray, List.set_cons_zero, List.set_cons_succ]))
            (refine wpAnyH_take (i := 27) (oi := { dst := some 80, op := Op.load 55 (Operand.tmp 79), type := 55, pos := "spread.go:36", after := #[{ on := 26, ground := Ground.data }], guard := none }) (v := ?_) rfl (by kernel_rfl) (by kernel_rfl) (by kernel_rfl) (fun _ _ _ h => h) (Or.inl ⟨by rfl, ?_⟩) (by assumption) ?_; rotate_left; (focus (intro w hSw; (try dsimp only at hSw); go_simp; (try with_reducible rfl))); (try simp only [Act.put, List.setIfInBounds_toArray, List.set_cons_zero, List.set_cons_succ]))
            (refine wpAnyH_take (i := 28) (oi := { dst := some 81, op := Op.indexAddr 45 (Operand.tmp 10) (Operand.const (Value.int IntKind.i64 1)), type := 0, pos := "spread.go:36", after := #[], guard := none }) (v := ?_) rfl (by kernel_rfl) (by kernel_rfl) (by kernel_rfl) (fun _ _ _ h => h) (Or.inl ⟨by rfl, ?_⟩) (by assumption) ?_; rotate_left; (focus (intro w hSw; (try dsimp only at hSw); go_simp; (try with_reducible rfl))); (try simp only [Act.put, List.setIfInBounds_toArray, List.set_cons_zero, List.set_cons_succ]))
            (refine wpAnyH_take (i := 29) (oi := { dst := some 82, op := Op.load 3 (Operand.tmp 81), type := 3, pos := "spread.go:36", after := #[{ on := 28, ground := Ground.data }], guard := none }) (v := ?_) rfl (by kernel_rfl) (by kernel_rfl) (by kernel_rfl) (fun _ _ _ h => h) (Or.inl ⟨by rfl, ?_⟩) (by assumption) ?_; rotate_left; (focus (intro w hSw; (try dsimp only at hSw); go_simp; (try with_reducible rfl))); (try simp only [Act.put, List.setIfInBounds_toArray, List.set_cons_zero, List.set_cons_succ]))
            (refine wpAnyH_take (i := 30) (oi := { dst := some 83, op := Op.indexAddr 55 (Operand.tmp 80) (Operand.tmp 82), type := 0, pos := "spread.go:36", after := #[{ on := 27, ground := Ground.data }, { on := 29, ground := Ground.data }], guard := none }) (v := ?_) rfl (by kernel_rfl) (by kernel_rfl) (by kernel_rfl) (fun _ _ _ h => h) (Or.inl ⟨by rfl, ?_⟩) (by assumption) ?_; rotate_left; (focus (intro w hSw; (try dsimp only at hSw); go_simp; (try with_reducible rfl))); (try simp only [Act.put, List.setIfInBounds_toArray, List.set_cons_zero, List.set_cons_succ]))
            (refine wpAnyH_take (i := 32) (oi := { dst := some 85, op := Op.indexAddr 45 (Operand.tmp 10) (Operand.const (Value.int IntKind.i64 0)), type := 0, pos := "spread.go:36", after := #[], guard := none }) (v := ?_) rfl (by kernel_rfl) (by kernel_rfl) (by kernel_rfl) (fun _ _ _ h => h) (Or.inl ⟨by rfl, ?_⟩) (by assumption) ?_; rotate_left; (focus (intro w hSw; (try dsimp only at hSw); go_simp; (try with_reducible rfl))); (try simp only [Act.put, List.setIfInBounds_toArray, List.set_cons_zero, List.set_cons_succ]))
            (refine wpAnyH_take (i := 33) (oi := { dst := some 86, op := Op.load 3 (Operand.tmp 85), type := 3, pos := "spread.go:36", after := #[{ on := 32, ground := Ground.data }], guard := none }) (v := ?_) rfl (by kernel_rfl) (by kernel_rfl) (by kernel_rfl) (fun _ _ _ h => h) (Or.inl ⟨by rfl, ?_⟩) (by assumption) ?_; rotate_left; (focus (intro w hSw; (try dsimp only at hSw); go_simp; (try with_reducible rfl))); (try simp only [Act.put, List.setIfInBounds_toArray, List.set_cons_zero, List.set_cons_succ]))
            refine wpAnyH_head (f := 6) 36 4 (fun w' => (w'.cell? ⟨nb, 1, none⟩ = some (.slice (some ⟨ob, 0, none⟩) nd nd) ∧ w'.cell? ⟨wo.heap.size, 0, none⟩ = some (.int .i64 (pn : Int)) ∧ w'.cell? ⟨wo.heap.size, 1, none⟩ = some (.int .i64 (qn : Int))) ∧ w'.cell? ⟨ob, pn, none⟩ = some (.slice pa (f pn).length pc) ∧ w'.cell? ⟨ob, qn, none⟩ = some (.slice qa (f qn).length qc)) (fun w h => h.1) (by kernel_rfl) ⟨⟨r1, e0d, e1d⟩, rp, rq⟩ ?_
            intro hS
            (refine wpHd_take (i := 19) (oi := { dst := some 72, op := Op.load 39 (Operand.tmp 71), type := 39, pos := "spread.go:36", after := #[{ on := 18, ground := Ground.data }], guard := none }) (v := ?_) rfl (by kernel_rfl) (by decide) (by kernel_rfl) (by kernel_rfl) (fun _ _ _ h => h) (Or.inl ⟨by rfl, ?_⟩) (by assumption) ?_; rotate_left; (focus (intro w hSw; (try dsimp only at hSw); go_simp; (try with_reducible rfl))); (try simp only [Act.put, List.setIfInBounds_toArray, List.set_cons_zero, List.set_cons_succ]))
            (refine wpHd_take (i := 31) (oi := { dst := some 84, op := Op.load 39 (Operand.tmp 83), type := 39, pos := "spread.go:36", after := #[{ on := 30, ground := Ground.data }], guard := none }) (v := ?_) rfl (by kernel_rfl) (by decide) (by kernel_rfl) (by kernel_rfl) (fun _ _ _ h => h) (Or.inl ⟨by rfl, ?_⟩) (by assumption) ?_; rotate_left; (focus (intro w hSw; (try dsimp only at hSw); go_simp; (try with_reducible rfl))); (try simp only [Act.put, List.setIfInBounds_toArray, List.set_cons_zero, List.set_cons_succ]))
            have hND := HN1.out
            have hBD := HB1.out
            clear hS0 hS r1 rp rq e0 e1 hsq hbq HN1 HB1 hnb0
            generalize wr.drew = D at *
            have e0D := e0d
            have e1D := e1d
            have szD := hszd
            have HND := Lib.hid hND
            have HBD := Lib.hid hBD
            have hz1 := hBD.size
            clear hND hBD
            refine wpHd_ready (rs := [22, 34]) (by kernel_rfl) (by simp) (by decide) ?_
            refine AllHd.cons (o := { dst := some 75, op := Op.buildSlice 39 1 #[(0, Operand.tmp 74)], type := 39, pos := "spread.go:36", after := #[{ on := 21, ground := Ground.data }], guard := none }) rfl (fun K1 hK1 => ?_) ?_
            · go_simp
              have hbDa : Below D.heap.size D (D.alloc (.cells #[.int .i64 (qn : Int)] 3)) := (Below.refl _ D).alloc (Nat.le_refl _) _
              have HNDa := Lib.hid (HND.out.kept hbDa)
              have e0Da : (D.alloc (.cells #[.int .i64 (qn : Int)] 3)).cell? ⟨wo.heap.size, 0, none⟩ = some (.int .i64 (pn : Int)) := (hbDa.cell (p := ⟨wo.heap.size, 0, none⟩) szD).trans e0D
              have e1Da : (D.alloc (.cells #[.int .i64 (qn : Int)] 3)).cell? ⟨wo.heap.size, 1, none⟩ = some (.int .i64 (qn : Int)) := (hbDa.cell (p := ⟨wo.heap.size, 1, none⟩) szD).trans e1D
              have szDa : wo.heap.size < (D.alloc (.cells #[.int .i64 (qn : Int)] 3)).heap.size := by have := hbDa.size; omega
              have bcDa : (D.alloc (.cells #[.int .i64 (qn : Int)] 3)).cell? ⟨D.heap.size, 0, none⟩ = some (.int .i64 (qn : Int)) := by go_simp
              have bsDa : D.heap.size < (D.alloc (.cells #[.int .i64 (qn : Int)] 3)).heap.size := by simp
              refine hK1.out _ _ ⟨⟨HNDa.out.c1, e0Da, e1Da⟩, (HNDa.out.near.cellAt pn (by omega)).trans xp, (HNDa.out.near.cellAt qn (by omega)).trans xq⟩ (fun _ => ?_)
              clear hK1
              generalize (D.alloc (.cells #[.int .i64 (qn : Int)] 3)) = Da at *
              (try simp only [Act.put, List.setIfInBounds_toArray, List.set_cons_zero, List.set_cons_succ])
              refine wpHd_ready (rs := [23, 34]) (by kernel_rfl) (by simp) (by decide) ?_
              refine AllHd.cons (o := { dst := some 76, op := Op.call { callee := Callee.builtin Builtin.append, args := #[Operand.tmp 72, Operand.tmp 75], argTypes := #[39, 39] }, type := 39, pos := "spread.go:36", after := #[{ on := 19, ground := Ground.data }, { on := 22, ground := Ground.data }], guard := none }) rfl (fun K2 hK2 => ?_) ?_
              · refine step_append_old rfl (.tmp 72) (.tmp 75) 39 rfl w.heap.size 3 i0 (.int .i64 0) 1 8 Tryd.underlying39 hi0 iz0 iz1 iz2 rfl (by decide) (.slice pa (f pn).length pc) (f pn).length (icells (f pn)) rfl (HNDa.out.row_at hpn xp) ⟨D.heap.size, 0, none⟩ 1 1 [.int .i64 (qn : Int)] rfl rfl ?_ ?_ (by decide) ?_ ?_ ?_ ?_
                · intro j u hj
                  match j, hj with
                  | 0, hj => simp at hj; subst hj; exact bcDa
                · intro u hu; simp at hu; subst hu; rfl
                · have := HL.out pn; unfold maxLen; omega
                · have := HL.out pn; omega
                · omega
                intro gWp cWp Wp oWp dWp hWp lWp
                have HNWp := Lib.hid (HNDa.out.app hpn xp dWp hWp)
                have e0Wp := (HNDa.out.far (o := 0) hpn xp hWp szDa (fun g hg => by have := hvp.out g hg; omega)).trans e0Da
                have e1Wp := (HNDa.out.far (o := 1) hpn xp hWp szDa (fun g hg => by have := hvp.out g hg; omega)).trans e1Da
                have szWp : wo.heap.size < Wp.heap.size := by have := hWp.size; omega
                refine hK2.out _ _ ⟨⟨HNWp.out.c1, e0Wp, e1Wp⟩, (HNWp.out.near.cellAt pn (by omega)).trans xp, (HNWp.out.near.cellAt qn (by omega)).trans xq⟩ (fun _ => ?_)
                clear hK2
                (try simp only [Act.put, List.setIfInBounds_toArray, List.set_cons_zero, List.set_cons_succ])
                refine wpHd_ready (rs := [34]) (by kernel_rfl) (by simp) (by decide) ?_
                refine AllHd.cons (o := { dst := some 87, op := Op.buildSlice 39 1 #[(0, Operand.tmp 86)], type := 39, pos := "spread.go:36", after := #[{ on := 33, ground := Ground.data }], guard := none }) rfl (fun K3 hK3 => ?_) AllHd.nil
                go_simp
                have hbDb : Below Wp.heap.size Wp (Wp.alloc (.cells #[.int .i64 (pn : Int)] 3)) := (Below.refl _ Wp).alloc (Nat.le_refl _) _
                have HNDb := Lib.hid (HNWp.out.kept hbDb)
                have e0Db : (Wp.alloc (.cells #[.int .i64 (pn : Int)] 3)).cell? ⟨wo.heap.size, 0, none⟩ = some (.int .i64 (pn : Int)) := (hbDb.cell (p := ⟨wo.heap.size, 0, none⟩) szWp).trans e0Wp
                have e1Db : (Wp.alloc (.cells #[.int .i64 (pn : Int)] 3)).cell? ⟨wo.heap.size, 1, none⟩ = some (.int .i64 (qn : Int)) := (hbDb.cell (p := ⟨wo.heap.size, 1, none⟩) szWp).trans e1Wp
                have szDb : wo.heap.size < (Wp.alloc (.cells #[.int .i64 (pn : Int)] 3)).heap.size := by have := hbDb.size; omega
                have bcDb : (Wp.alloc (.cells #[.int .i64 (pn : Int)] 3)).cell? ⟨Wp.heap.size, 0, none⟩ = some (.int .i64 (pn : Int)) := by go_simp
                have bsDb : Wp.heap.size < (Wp.alloc (.cells #[.int .i64 (pn : Int)] 3)).heap.size := by simp
                refine hK3.out _ _ ⟨⟨HNDb.out.c1, e0Db, e1Db⟩, (HNDb.out.near.cellAt pn (by omega)).trans xp, (HNDb.out.near.cellAt qn (by omega)).trans xq⟩ (fun _ => ?_)
                clear hK3
                generalize (Wp.alloc (.cells #[.int .i64 (pn : Int)] 3)) = Db at *
                (try simp only [Act.put, List.setIfInBounds_toArray, List.set_cons_zero, List.set_cons_succ])
                refine wpHd_ready (rs := [35]) (by kernel_rfl) (by simp) (by decide) ?_
                refine AllHd.cons (o := { dst := some 88, op := Op.call { callee := Callee.builtin Builtin.append, args := #[Operand.tmp 84, Operand.tmp 87], argTypes := #[39, 39] }, type := 39, pos := "spread.go:36", after := #[{ on := 31, ground := Ground.data }, { on := 34, ground := Ground.data }, { on := 23, ground := Ground.chain }], guard := none }) rfl (fun K4 hK4 => ?_) AllHd.nil
                refine step_append_old rfl (.tmp 84) (.tmp 87) 39 rfl w.heap.size 3 i0 (.int .i64 0) 1 8 Tryd.underlying39 hi0 iz0 iz1 iz2 rfl (by decide) (.slice qa (f qn).length qc) (f qn).length (icells (f qn)) rfl (HNDb.out.row_at hqn xq) ⟨Wp.heap.size, 0, none⟩ 1 1 [.int .i64 (pn : Int)] rfl rfl ?_ ?_ (by decide) ?_ ?_ ?_ ?_
                · intro j u hj
                  match j, hj with
                  | 0, hj => simp at hj; subst hj; exact bcDb
                · intro u hu; simp at hu; subst hu; rfl
                · have := HL.out qn; unfold maxLen; omega
                · have := HL.out qn; omega
                · omega
                intro gWq cWq Wq oWq dWq hWq lWq
                have HNWq := Lib.hid (HNDb.out.app hqn xq dWq hWq)
                have e0Wq := (HNDb.out.far (o := 0) hqn xq hWq szDb (fun g hg => by have := hvq.out g hg; omega)).trans e0Db
                have e1Wq := (HNDb.out.far (o := 1) hqn xq hWq szDb (fun g hg => by have := hvq.out g hg; omega)).trans e1Db
                have szWq : wo.heap.size < Wq.heap.size := by have := hWq.size; omega
                refine hK4.out _ _ ⟨⟨HNWq.out.c1, e0Wq, e1Wq⟩, (HNWq.out.near.cellAt pn (by omega)).trans xp, (HNWq.out.near.cellAt qn (by omega)).trans xq⟩ (fun _ => ?_)
                clear hK4
                (try simp only [Act.put, List.setIfInBounds_toArray, List.set_cons_zero, List.set_cons_succ])
                have HFin := Lib.hid (HNDa.out.edge hpn hqn xp xq oWp dWp hWp lWp hbDb oWq dWq hWq lWq HF.out)
                have HBf := Lib.hid (HNDa.out.edge_below hpn hqn xp xq (HBD.out.trans (hbDa.mono hz1)) (by omega) hWp hbDb hWq (.slice (some ⟨gWp, 0, none⟩) ((f pn).length + 1) cWp) (.slice (some ⟨gWq, 0, none⟩) ((f qn).length + 1) cWq))
                have hS0 : Wq.cell? ⟨nb, 1, none⟩ = some (.slice (some ⟨ob, 0, none⟩) nd nd) ∧ Wq.cell? ⟨wo.heap.size, 0, none⟩ = some (.int .i64 (pn : Int)) ∧ Wq.cell? ⟨wo.heap.size, 1, none⟩ = some (.int .i64 (qn : Int)) := ⟨HNWq.out.c1, e0Wq, e1Wq⟩
                have y1 := (HNWq.out.near.cellAt pn (by omega)).trans xp
                have y2 := HNWq.out.near.frozenAt pn
                have y3 : (Wq.setCell ⟨ob, pn, none⟩ (.slice (some ⟨gWp, 0, none⟩) ((f pn).length + 1) cWp)).cell? ⟨ob, qn, none⟩ = _ := (World.ownsRow.stored HNWq.out.near pn (.slice (some ⟨gWp, 0, none⟩) ((f pn).length + 1) cWp)).1.cellAt qn (by omega)
                have y4 := (World.ownsRow.stored HNWq.out.near pn (.slice (some ⟨gWp, 0, none⟩) ((f pn).length + 1) cWp)).1.frozenAt qn
                have y5 : ∃ z, (xs.set pn (.slice (some ⟨gWp, 0, none⟩) ((f pn).length + 1) cWp))[qn]? = some z := ⟨_, List.getElem?_eq_getElem (by have := HNWq.out.near.1; rw [List.length_set]; omega)⟩
                obtain ⟨z, y5⟩ := y5
                rw [y5] at y3
                refine wpHd_tail (by kernel_rfl) ?_
                (refine wpAnyH_take (i := 36) (oi := { dst := some 89, op := Op.indexAddr 55 (Operand.tmp 56) (Operand.tmp 58), type := 0, pos := "spread.go:36", after := #[{ on := 3, ground := Ground.data }, { on := 5, ground := Ground.data }, { on := 0, ground := Ground.phase }, { on := 1, ground := Ground.phase }, { on := 2, ground := Ground.phase }, { on := 3, ground := Ground.phase }, { on := 4, ground := Ground.phase }, { on := 5, ground := Ground.phase }, { on := 6, ground := Ground.textOnly Go.Departure.lateStores }, { on := 7, ground := Ground.textOnly Go.Departure.lateStoresUnsure }, { on := 8, ground := Ground.textOnly Go.Departure.lateStoresUnsure }, { on := 9, ground := Ground.phase }, { on := 10, ground := Ground.textOnly Go.Departure.lateStoresUnsure }, { on := 11, ground := Ground.textOnly Go.Departure.lateStoresUnsure }, { on := 12, ground := Ground.phase }, { on := 13, ground := Ground.phase }, { on := 14, ground := Ground.phase }, { on := 15, ground := Ground.phase }, { on := 16, ground := Ground.phase }, { on := 17, ground := Ground.phase }, { on := 18, ground := Ground.phase }, { on := 19, ground := Ground.phase }, { on := 20, ground := Ground.phase }, { on := 21, ground := Ground.phase }, { on := 22, ground := Ground.phase }, { on := 23, ground := Ground.phase }, { on := 24, ground := Ground.textOnly Go.Departure.lateStores }, { on := 25, ground := Ground.textOnly Go.Departure.lateStoresUnsure }, { on := 26, ground := Ground.textOnly Go.Departure.lateStoresUnsure }, { on := 27, ground := Ground.phase }, { on := 28, ground := Ground.textOnly Go.Departure.lateStoresUnsure }, { on := 29, ground := Ground.textOnly Go.Departure.lateStoresUnsure }, { on := 30, ground := Ground.textOnly Go.Departure.lateStoresUnsure }, { on := 31, ground := Ground.phase }, { on := 32, ground := Ground.textOnly Go.Departure.lateStoresUnsure }, { on := 33, ground := Ground.textOnly Go.Departure.lateStoresUnsure }, { on := 34, ground := Ground.textOnly Go.Departure.lateStoresUnsure }, { on := 35, ground := Ground.phase }], guard := none }) (v := ?_) rfl (by kernel_rfl) (by kernel_rfl) (by kernel_rfl) (fun _ _ _ h => h) (Or.inl ⟨by rfl, ?_⟩) (by assumption) ?_; rotate_left; (focus (intro w hSw; (try dsimp only at hSw); go_simp; (try with_reducible rfl))); (try simp only [Act.put, List.setIfInBounds_toArray, List.set_cons_zero, List.set_cons_succ]))
                refine wpAnyH_ready (rs := [37]) (by kernel_rfl) (by simp) ?_
                refine AllReadyH.cons (o := { dst := none, op := Op.store 39 (Operand.tmp 89) (Operand.tmp 76), type := 0, pos := "spread.go:36", after := #[{ on := 36, ground := Ground.data }, { on := 23, ground := Ground.data }, { on := 35, ground := Ground.chain }, { on := 0, ground := Ground.phase }, { on := 1, ground := Ground.phase }, { on := 2, ground := Ground.phase }, { on := 3, ground := Ground.phase }, { on := 4, ground := Ground.phase }, { on := 5, ground := Ground.phase }, { on := 6, ground := Ground.textOnly Go.Departure.lateStores }, { on := 7, ground := Ground.textOnly Go.Departure.lateStoresUnsure }, { on := 8, ground := Ground.textOnly Go.Departure.lateStoresUnsure }, { on := 9, ground := Ground.phase }, { on := 10, ground := Ground.textOnly Go.Departure.lateStoresUnsure }, { on := 11, ground := Ground.textOnly Go.Departure.lateStoresUnsure }, { on := 12, ground := Ground.phase }, { on := 13, ground := Ground.phase }, { on := 14, ground := Ground.phase }, { on := 15, ground := Ground.phase }, { on := 16, ground := Ground.phase }, { on := 17, ground := Ground.phase }, { on := 18, ground := Ground.phase }, { on := 19, ground := Ground.phase }, { on := 20, ground := Ground.phase }, { on := 21, ground := Ground.phase }, { on := 22, ground := Ground.phase }, { on := 23, ground := Ground.phase }, { on := 24, ground := Ground.textOnly Go.Departure.lateStores }, { on := 25, ground := Ground.textOnly Go.Departure.lateStoresUnsure }, { on := 26, ground := Ground.textOnly Go.Departure.lateStoresUnsure }, { on := 27, ground := Ground.phase }, { on := 28, ground := Ground.textOnly Go.Departure.lateStoresUnsure }, { on := 29, ground := Ground.textOnly Go.Departure.lateStoresUnsure }, { on := 30, ground := Ground.textOnly Go.Departure.lateStoresUnsure }, { on := 31, ground := Ground.phase }, { on := 32, ground := Ground.textOnly Go.Departure.lateStoresUnsure }, { on := 33, ground := Ground.textOnly Go.Departure.lateStoresUnsure }, { on := 34, ground := Ground.textOnly Go.Departure.lateStoresUnsure }, { on := 35, ground := Ground.phase }], guard := none }) rfl (fun KA hKA => ?_) AllReadyH.nil
                go_simp
                refine hKA.out _ _ (by refine ⟨?_, ?_, ?_⟩ <;> go_simp) (fun hSA => ?_)
                clear hKA
                (try simp only [Act.put, List.setIfInBounds_toArray, List.set_cons_zero, List.set_cons_succ])
                (refine wpAnyH_take (i := 38) (oi := { dst := some 90, op := Op.indexAddr 55 (Operand.tmp 62) (Operand.tmp 64), type := 0, pos := "spread.go:36", after := #[{ on := 9, ground := Ground.data }, { on := 11, ground := Ground.data }, { on := 0, ground := Ground.phase }, { on := 1, ground := Ground.phase }, { on := 2, ground := Ground.phase }, { on := 3, ground := Ground.phase }, { on := 4, ground := Ground.phase }, { on := 5, ground := Ground.phase }, { on := 6, ground := Ground.phase }, { on := 7, ground := Ground.phase }, { on := 8, ground := Ground.phase }, { on := 9, ground := Ground.phase }, { on := 10, ground := Ground.phase }, { on := 11, ground := Ground.phase }, { on := 12, ground := Ground.phase }, { on := 13, ground := Ground.phase }, { on := 14, ground := Ground.phase }, { on := 15, ground := Ground.phase }, { on := 16, ground := Ground.phase }, { on := 17, ground := Ground.phase }, { on := 18, ground := Ground.phase }, { on := 19, ground := Ground.phase }, { on := 20, ground := Ground.phase }, { on := 21, ground := Ground.phase }, { on := 22, ground := Ground.phase }, { on := 23, ground := Ground.phase }, { on := 24, ground := Ground.phase }, { on := 25, ground := Ground.phase }, { on := 26, ground := Ground.phase }, { on := 27, ground := Ground.phase }, { on := 28, ground := Ground.phase }, { on := 29, ground := Ground.phase }, { on := 30, ground := Ground.phase }, { on := 31, ground := Ground.phase }, { on := 32, ground := Ground.phase }, { on := 33, ground := Ground.phase }, { on := 34, ground := Ground.phase }, { on := 35, ground := Ground.phase }, { on := 36, ground := Ground.phase }, { on := 37, ground := Ground.phase }], guard := none }) (v := ?_) rfl (by kernel_rfl) (by kernel_rfl) (by kernel_rfl) (fun _ _ _ h => h) (Or.inl ⟨by rfl, ?_⟩) (by assumption) ?_; rotate_left; (focus (intro w hSw; (try dsimp only at hSw); go_simp; (try with_reducible rfl))); (try simp only [Act.put, List.setIfInBounds_toArray, List.set_cons_zero, List.set_cons_succ]))
                refine wpAnyH_ready (rs := [39]) (by kernel_rfl) (by simp) ?_
                refine AllReadyH.cons (o := { dst := none, op := Op.store 39 (Operand.tmp 90) (Operand.tmp 88), type := 0, pos := "spread.go:36", after := #[{ on := 38, ground := Ground.data }, { on := 35, ground := Ground.data }, { on := 37, ground := Ground.chain }, { on := 0, ground := Ground.phase }, { on := 1, ground := Ground.phase }, { on := 2, ground := Ground.phase }, { on := 3, ground := Ground.phase }, { on := 4, ground := Ground.phase }, { on := 5, ground := Ground.phase }, { on := 6, ground := Ground.phase }, { on := 7, ground := Ground.phase }, { on := 8, ground := Ground.phase }, { on := 9, ground := Ground.phase }, { on := 10, ground := Ground.phase }, { on := 11, ground := Ground.phase }, { on := 12, ground := Ground.phase }, { on := 13, ground := Ground.phase }, { on := 14, ground := Ground.phase }, { on := 15, ground := Ground.phase }, { on := 16, ground := Ground.phase }, { on := 17, ground := Ground.phase }, { on := 18, ground := Ground.phase }, { on := 19, ground := Ground.phase }, { on := 20, ground := Ground.phase }, { on := 21, ground := Ground.phase }, { on := 22, ground := Ground.phase }, { on := 23, ground := Ground.phase }, { on := 24, ground := Ground.phase }, { on := 25, ground := Ground.phase }, { on := 26, ground := Ground.phase }, { on := 27, ground := Ground.phase }, { on := 28, ground := Ground.phase }, { on := 29, ground := Ground.phase }, { on := 30, ground := Ground.phase }, { on := 31, ground := Ground.phase }, { on := 32, ground := Ground.phase }, { on := 33, ground := Ground.phase }, { on := 34, ground := Ground.phase }, { on := 35, ground := Ground.phase }, { on := 36, ground := Ground.phase }, { on := 37, ground := Ground.phase }], guard := none }) rfl (fun KB hKB => ?_) AllReadyH.nil
                go_simp
                refine hKB.out _ _ (by refine ⟨?_, ?_, ?_⟩ <;> go_simp) (fun hSB => ?_)
                clear hKB
                (try simp only [Act.put, List.setIfInBounds_toArray, List.set_cons_zero, List.set_cons_succ])
                refine wpAnyH_done (by kernel_rfl) ?_ _
                clear y1 y2 y3 y4 y5 hSA hSB hS0
                go_wp2_with fail
                go_roundg (E.length - (m + 1))
                case measure => omega
                case rel => exact ⟨m + 1, _, by omega, by go_num, HFin.out, HOkn.out, HBf.out⟩
              · refine AllHd.cons (o := { dst := some 87, op := Op.buildSlice 39 1 #[(0, Operand.tmp 86)], type := 39, pos := "spread.go:36", after := #[{ on := 33, ground := Ground.data }], guard := none }) rfl (fun K2 hK2 => ?_) AllHd.nil
                go_simp
                have hbDb : Below Da.heap.size Da (Da.alloc (.cells #[.int .i64 (pn : Int)] 3)) := (Below.refl _ Da).alloc (Nat.le_refl _) _
                have HNDb := Lib.hid (HNDa.out.kept hbDb)
                have e0Db : (Da.alloc (.cells #[.int .i64 (pn : Int)] 3)).cell? ⟨wo.heap.size, 0, none⟩ = some (.int .i64 (pn : Int)) := (hbDb.cell (p := ⟨wo.heap.size, 0, none⟩) szDa).trans e0Da
                have e1Db : (Da.alloc (.cells #[.int .i64 (pn : Int)] 3)).cell? ⟨wo.heap.size, 1, none⟩ = some (.int .i64 (qn : Int)) := (hbDb.cell (p := ⟨wo.heap.size, 1, none⟩) szDa).trans e1Da
                have szDb : wo.heap.size < (Da.alloc (.cells #[.int .i64 (pn : Int)] 3)).heap.size := by have := hbDb.size; omega
                have bcDb : (Da.alloc (.cells #[.int .i64 (pn : Int)] 3)).cell? ⟨Da.heap.size, 0, none⟩ = some (.int .i64 (pn : Int)) := by go_simp
                have bsDb : Da.heap.size < (Da.alloc (.cells #[.int .i64 (pn : Int)] 3)).heap.size := by simp
                refine hK2.out _ _ ⟨⟨HNDb.out.c1, e0Db, e1Db⟩, (HNDb.out.near.cellAt pn (by omega)).trans xp, (HNDb.out.near.cellAt qn (by omega)).trans xq⟩ (fun _ => ?_)
                clear hK2
                generalize (Da.alloc (.cells #[.int .i64 (pn : Int)] 3)) = Db at *
                (try simp only [Act.put, List.setIfInBounds_toArray, List.set_cons_zero, List.set_cons_succ])
                have bcX := (hbDb.cell (p := ⟨D.heap.size, 0, none⟩) bsDa).trans bcDa
                refine wpHd_ready (rs := [23]) (by kernel_rfl) (by simp) (by decide) ?_
                refine AllHd.cons (o := { dst := some 76, op := Op.call { callee := Callee.builtin Builtin.append, args := #[Operand.tmp 72, Operand.tmp 75], argTypes := #[39, 39] }, type := 39, pos := "spread.go:36", after := #[{ on := 19, ground := Ground.data }, { on := 22, ground := Ground.data }], guard := none }) rfl (fun K3 hK3 => ?_) AllHd.nil
                refine step_append_old rfl (.tmp 72) (.tmp 75) 39 rfl w.heap.size 3 i0 (.int .i64 0) 1 8 Tryd.underlying39 hi0 iz0 iz1 iz2 rfl (by decide) (.slice pa (f pn).length pc) (f pn).length (icells (f pn)) rfl (HNDb.out.row_at hpn xp) ⟨D.heap.size, 0, none⟩ 1 1 [.int .i64 (qn : Int)] rfl rfl ?_ ?_ (by decide) ?_ ?_ ?_ ?_
                · intro j u hj
                  match j, hj with
                  | 0, hj => simp at hj; subst hj; exact bcX
                · intro u hu; simp at hu; subst hu; rfl
                · have := HL.out pn; unfold maxLen; omega
                · have := HL.out pn; omega
                · omega
                intro gWp cWp Wp oWp dWp hWp lWp
                have HNWp := Lib.hid (HNDb.out.app hpn xp dWp hWp)
                have e0Wp := (HNDb.out.far (o := 0) hpn xp hWp szDb (fun g hg => by have := hvp.out g hg; omega)).trans e0Db
                have e1Wp := (HNDb.out.far (o := 1) hpn xp hWp szDb (fun g hg => by have := hvp.out g hg; omega)).trans e1Db
                have szWp : wo.heap.size < Wp.heap.size := by have := hWp.size; omega
                refine hK3.out _ _ ⟨⟨HNWp.out.c1, e0Wp, e1Wp⟩, (HNWp.out.near.cellAt pn (by omega)).trans xp, (HNWp.out.near.cellAt qn (by omega)).trans xq⟩ (fun _ => ?_)
                clear hK3
                (try simp only [Act.put, List.setIfInBounds_toArray, List.set_cons_zero, List.set_cons_succ])
                have bcY := (HNDb.out.far (o := 0) hpn xp hWp (b := Da.heap.size) bsDb (fun g hg => by have := hvp.out g hg; omega)).trans bcDb
                refine wpHd_ready (rs := [35]) (by kernel_rfl) (by simp) (by decide) ?_
                refine AllHd.cons (o := { dst := some 88, op := Op.call { callee := Callee.builtin Builtin.append, args := #[Operand.tmp 84, Operand.tmp 87], argTypes := #[39, 39] }, type := 39, pos := "spread.go:36", after := #[{ on := 31, ground := Ground.data }, { on := 34, ground := Ground.data }, { on := 23, ground := Ground.chain }], guard := none }) rfl (fun K4 hK4 => ?_) AllHd.nil
                refine step_append_old rfl (.tmp 84) (.tmp 87) 39 rfl w.heap.size 3 i0 (.int .i64 0) 1 8 Tryd.underlying39 hi0 iz0 iz1 iz2 rfl (by decide) (.slice qa (f qn).length qc) (f qn).length (icells (f qn)) rfl (HNWp.out.row_at hqn xq) ⟨Da.heap.size, 0, none⟩ 1 1 [.int .i64 (pn : Int)] rfl rfl ?_ ?_ (by decide) ?_ ?_ ?_ ?_
                · intro j u hj
                  match j, hj with
                  | 0, hj => simp at hj; subst hj; exact bcY
                · intro u hu; simp at hu; subst hu; rfl
                · have := HL.out qn; unfold maxLen; omega
                · have := HL.out qn; omega
                · omega
                intro gWq cWq Wq oWq dWq hWq lWq
                have HNWq := Lib.hid (HNWp.out.app hqn xq dWq hWq)
                have e0Wq := (HNWp.out.far (o := 0) hqn xq hWq szWp (fun g hg => by have := hvq.out g hg; omega)).trans e0Wp
                have e1Wq := (HNWp.out.far (o := 1) hqn xq hWq szWp (fun g hg => by have := hvq.out g hg; omega)).trans e1Wp
                have szWq : wo.heap.size < Wq.heap.size := by have := hWq.size; omega
                refine hK4.out _ _ ⟨⟨HNWq.out.c1, e0Wq, e1Wq⟩, (HNWq.out.near.cellAt pn (by omega)).trans xp, (HNWq.out.near.cellAt qn (by omega)).trans xq⟩ (fun _ => ?_)
                clear hK4
                (try simp only [Act.put, List.setIfInBounds_toArray, List.set_cons_zero, List.set_cons_succ])
                have HFin := Lib.hid (HNDb.out.edge hpn hqn xp xq oWp dWp hWp lWp (Below.refl _ Wp) oWq dWq hWq lWq HF.out)
                have HBf := Lib.hid (HNDb.out.edge_below hpn hqn xp xq ((HBD.out.trans (hbDa.mono hz1)).trans (hbDb.mono (by omega))) (by omega) hWp (Below.refl _ Wp) hWq (.slice (some ⟨gWp, 0, none⟩) ((f pn).length + 1) cWp) (.slice (some ⟨gWq, 0, none⟩) ((f qn).length + 1) cWq))
                have hS0 : Wq.cell? ⟨nb, 1, none⟩ = some (.slice (some ⟨ob, 0, none⟩) nd nd) ∧ Wq.cell? ⟨wo.heap.size, 0, none⟩ = some (.int .i64 (pn : Int)) ∧ Wq.cell? ⟨wo.heap.size, 1, none⟩ = some (.int .i64 (qn : Int)) := ⟨HNWq.out.c1, e0Wq, e1Wq⟩
                have y1 := (HNWq.out.near.cellAt pn (by omega)).trans xp
                have y2 := HNWq.out.near.frozenAt pn
                have y3 : (Wq.setCell ⟨ob, pn, none⟩ (.slice (some ⟨gWp, 0, none⟩) ((f pn).length + 1) cWp)).cell? ⟨ob, qn, none⟩ = _ := (World.ownsRow.stored HNWq.out.near pn (.slice (some ⟨gWp, 0, none⟩) ((f pn).length + 1) cWp)).1.cellAt qn (by omega)
                have y4 := (World.ownsRow.stored HNWq.out.near pn (.slice (some ⟨gWp, 0, none⟩) ((f pn).length + 1) cWp)).1.frozenAt qn
                have y5 : ∃ z, (xs.set pn (.slice (some ⟨gWp, 0, none⟩) ((f pn).length + 1) cWp))[qn]? = some z := ⟨_, List.getElem?_eq_getElem (by have := HNWq.out.near.1; rw [List.length_set]; omega)⟩
                obtain ⟨z, y5⟩ := y5
                rw [y5] at y3
                refine wpHd_tail (by kernel_rfl) ?_
                (refine wpAnyH_take (i := 36) (oi := { dst := some 89, op := Op.indexAddr 55 (Operand.tmp 56) (Operand.tmp 58), type := 0, pos := "spread.go:36", after := #[{ on := 3, ground := Ground.data }, { on := 5, ground := Ground.data }, { on := 0, ground := Ground.phase }, { on := 1, ground := Ground.phase }, { on := 2, ground := Ground.phase }, { on := 3, ground := Ground.phase }, { on := 4, ground := Ground.phase }, { on := 5, ground := Ground.phase }, { on := 6, ground := Ground.textOnly Go.Departure.lateStores }, { on := 7, ground := Ground.textOnly Go.Departure.lateStoresUnsure }, { on := 8, ground := Ground.textOnly Go.Departure.lateStoresUnsure }, { on := 9, ground := Ground.phase }, { on := 10, ground := Ground.textOnly Go.Departure.lateStoresUnsure }, { on := 11, ground := Ground.textOnly Go.Departure.lateStoresUnsure }, { on := 12, ground := Ground.phase }, { on := 13, ground := Ground.phase }, { on := 14, ground := Ground.phase }, { on := 15, ground := Ground.phase }, { on := 16, ground := Ground.phase }, { on := 17, ground := Ground.phase }, { on := 18, ground := Ground.phase }, { on := 19, ground := Ground.phase }, { on := 20, ground := Ground.phase }, { on := 21, ground := Ground.phase }, { on := 22, ground := Ground.phase }, { on := 23, ground := Ground.phase }, { on := 24, ground := Ground.textOnly Go.Departure.lateStores }, { on := 25, ground := Ground.textOnly Go.Departure.lateStoresUnsure }, { on := 26, ground := Ground.textOnly Go.Departure.lateStoresUnsure }, { on := 27, ground := Ground.phase }, { on := 28, ground := Ground.textOnly Go.Departure.lateStoresUnsure }, { on := 29, ground := Ground.textOnly Go.Departure.lateStoresUnsure }, { on := 30, ground := Ground.textOnly Go.Departure.lateStoresUnsure }, { on := 31, ground := Ground.phase }, { on := 32, ground := Ground.textOnly Go.Departure.lateStoresUnsure }, { on := 33, ground := Ground.textOnly Go.Departure.lateStoresUnsure }, { on := 34, ground := Ground.textOnly Go.Departure.lateStoresUnsure }, { on := 35, ground := Ground.phase }], guard := none }) (v := ?_) rfl (by kernel_rfl) (by kernel_rfl) (by kernel_rfl) (fun _ _ _ h => h) (Or.inl ⟨by rfl, ?_⟩) (by assumption) ?_; rotate_left; (focus (intro w hSw; (try dsimp only at hSw); go_simp; (try with_reducible rfl))); (try simp only [Act.put, List.setIfInBounds_toArray, List.set_cons_zero, List.set_cons_succ]))
                refine wpAnyH_ready (rs := [37]) (by kernel_rfl) (by simp) ?_
                refine AllReadyH.cons (o := { dst := none, op := Op.store 39 (Operand.tmp 89) (Operand.tmp 76), type := 0, pos := "spread.go:36", after := #[{ on := 36, ground := Ground.data }, { on := 23, ground := Ground.data }, { on := 35, ground := Ground.chain }, { on := 0, ground := Ground.phase }, { on := 1, ground := Ground.phase }, { on := 2, ground := Ground.phase }, { on := 3, ground := Ground.phase }, { on := 4, ground := Ground.phase }, { on := 5, ground := Ground.phase }, { on := 6, ground := Ground.textOnly Go.Departure.lateStores }, { on := 7, ground := Ground.textOnly Go.Departure.lateStoresUnsure }, { on := 8, ground := Ground.textOnly Go.Departure.lateStoresUnsure }, { on := 9, ground := Ground.phase }, { on := 10, ground := Ground.textOnly Go.Departure.lateStoresUnsure }, { on := 11, ground := Ground.textOnly Go.Departure.lateStoresUnsure }, { on := 12, ground := Ground.phase }, { on := 13, ground := Ground.phase }, { on := 14, ground := Ground.phase }, { on := 15, ground := Ground.phase }, { on := 16, ground := Ground.phase }, { on := 17, ground := Ground.phase }, { on := 18, ground := Ground.phase }, { on := 19, ground := Ground.phase }, { on := 20, ground := Ground.phase }, { on := 21, ground := Ground.phase }, { on := 22, ground := Ground.phase }, { on := 23, ground := Ground.phase }, { on := 24, ground := Ground.textOnly Go.Departure.lateStores }, { on := 25, ground := Ground.textOnly Go.Departure.lateStoresUnsure }, { on := 26, ground := Ground.textOnly Go.Departure.lateStoresUnsure }, { on := 27, ground := Ground.phase }, { on := 28, ground := Ground.textOnly Go.Departure.lateStoresUnsure }, { on := 29, ground := Ground.textOnly Go.Departure.lateStoresUnsure }, { on := 30, ground := Ground.textOnly Go.Departure.lateStoresUnsure }, { on := 31, ground := Ground.phase }, { on := 32, ground := Ground.textOnly Go.Departure.lateStoresUnsure }, { on := 33, ground := Ground.textOnly Go.Departure.lateStoresUnsure }, { on := 34, ground := Ground.textOnly Go.Departure.lateStoresUnsure }, { on := 35, ground := Ground.phase }], guard := none }) rfl (fun KA hKA => ?_) AllReadyH.nil
                go_simp
                refine hKA.out _ _ (by refine ⟨?_, ?_, ?_⟩ <;> go_simp) (fun hSA => ?_)
                clear hKA
                (try simp only [Act.put, List.setIfInBounds_toArray, List.set_cons_zero, List.set_cons_succ])
                (refine wpAnyH_take (i := 38) (oi := { dst := some 90, op := Op.indexAddr 55 (Operand.tmp 62) (Operand.tmp 64), type := 0, pos := "spread.go:36", after := #[{ on := 9, ground := Ground.data }, { on := 11, ground := Ground.data }, { on := 0, ground := Ground.phase }, { on := 1, ground := Ground.phase }, { on := 2, ground := Ground.phase }, { on := 3, ground := Ground.phase }, { on := 4, ground := Ground.phase }, { on := 5, ground := Ground.phase }, { on := 6, ground := Ground.phase }, { on := 7, ground := Ground.phase }, { on := 8, ground := Ground.phase }, { on := 9, ground := Ground.phase }, { on := 10, ground := Ground.phase }, { on := 11, ground := Ground.phase }, { on := 12, ground := Ground.phase }, { on := 13, ground := Ground.phase }, { on := 14, ground := Ground.phase }, { on := 15, ground := Ground.phase }, { on := 16, ground := Ground.phase }, { on := 17, ground := Ground.phase }, { on := 18, ground := Ground.phase }, { on := 19, ground := Ground.phase }, { on := 20, ground := Ground.phase }, { on := 21, ground := Ground.phase }, { on := 22, ground := Ground.phase }, { on := 23, ground := Ground.phase }, { on := 24, ground := Ground.phase }, { on := 25, ground := Ground.phase }, { on := 26, ground := Ground.phase }, { on := 27, ground := Ground.phase }, { on := 28, ground := Ground.phase }, { on := 29, ground := Ground.phase }, { on := 30, ground := Ground.phase }, { on := 31, ground := Ground.phase }, { on := 32, ground := Ground.phase }, { on := 33, ground := Ground.phase }, { on := 34, ground := Ground.phase }, { on := 35, ground := Ground.phase }, { on := 36, ground := Ground.phase }, { on := 37, ground := Ground.phase }], guard := none }) (v := ?_) rfl (by kernel_rfl) (by kernel_rfl) (by kernel_rfl) (fun _ _ _ h => h) (Or.inl ⟨by rfl, ?_⟩) (by assumption) ?_; rotate_left; (focus (intro w hSw; (try dsimp only at hSw); go_simp; (try with_reducible rfl))); (try simp only [Act.put, List.setIfInBounds_toArray, List.set_cons_zero, List.set_cons_succ]))
                refine wpAnyH_ready (rs := [39]) (by kernel_rfl) (by simp) ?_
                refine AllReadyH.cons (o := { dst := none, op := Op.store 39 (Operand.tmp 90) (Operand.tmp 88), type := 0, pos := "spread.go:36", after := #[{ on := 38, ground := Ground.data }, { on := 35, ground := Ground.data }, { on := 37, ground := Ground.chain }, { on := 0, ground := Ground.phase }, { on := 1, ground := Ground.phase }, { on := 2, ground := Ground.phase }, { on := 3, ground := Ground.phase }, { on := 4, ground := Ground.phase }, { on := 5, ground := Ground.phase }, { on := 6, ground := Ground.phase }, { on := 7, ground := Ground.phase }, { on := 8, ground := Ground.phase }, { on := 9, ground := Ground.phase }, { on := 10, ground := Ground.phase }, { on := 11, ground := Ground.phase }, { on := 12, ground := Ground.phase }, { on := 13, ground := Ground.phase }, { on := 14, ground := Ground.phase }, { on := 15, ground := Ground.phase }, { on := 16, ground := Ground.phase }, { on := 17, ground := Ground.phase }, { on := 18, ground := Ground.phase }, { on := 19, ground := Ground.phase }, { on := 20, ground := Ground.phase }, { on := 21, ground := Ground.phase }, { on := 22, ground := Ground.phase }, { on := 23, ground := Ground.phase }, { on := 24, ground := Ground.phase }, { on := 25, ground := Ground.phase }, { on := 26, ground := Ground.phase }, { on := 27, ground := Ground.phase }, { on := 28, ground := Ground.phase }, { on := 29, ground := Ground.phase }, { on := 30, ground := Ground.phase }, { on := 31, ground := Ground.phase }, { on := 32, ground := Ground.phase }, { on := 33, ground := Ground.phase }, { on := 34, ground := Ground.phase }, { on := 35, ground := Ground.phase }, { on := 36, ground := Ground.phase }, { on := 37, ground := Ground.phase }], guard := none }) rfl (fun KB hKB => ?_) AllReadyH.nil
                go_simp
                refine hKB.out _ _ (by refine ⟨?_, ?_, ?_⟩ <;> go_simp) (fun hSB => ?_)
                clear hKB
                (try simp only [Act.put, List.setIfInBounds_toArray, List.set_cons_zero, List.set_cons_succ])
                refine wpAnyH_done (by kernel_rfl) ?_ _
                clear y1 y2 y3 y4 y5 hSA hSB hS0
                go_wp2_with fail
                go_roundg (E.length - (m + 1))
                case measure => omega
                case rel => exact ⟨m + 1, _, by omega, by go_num, HFin.out, HOkn.out, HBf.out⟩
            · refine AllHd.cons (o := { dst := some 87, op := Op.buildSlice 39 1 #[(0, Operand.tmp 86)], type := 39, pos := "spread.go:36", after := #[{ on := 33, ground := Ground.data }], guard := none }) rfl (fun K1 hK1 => ?_) AllHd.nil
              go_simp
              have hbDa : Below D.heap.size D (D.alloc (.cells #[.int .i64 (pn : Int)] 3)) := (Below.refl _ D).alloc (Nat.le_refl _) _
              have HNDa := Lib.hid (HND.out.kept hbDa)
              have e0Da : (D.alloc (.cells #[.int .i64 (pn : Int)] 3)).cell? ⟨wo.heap.size, 0, none⟩ = some (.int .i64 (pn : Int)) := (hbDa.cell (p := ⟨wo.heap.size, 0, none⟩) szD).trans e0D
              have e1Da : (D.alloc (.cells #[.int .i64 (pn : Int)] 3)).cell? ⟨wo.heap.size, 1, none⟩ = some (.int .i64 (qn : Int)) := (hbDa.cell (p := ⟨wo.heap.size, 1, none⟩) szD).trans e1D
              have szDa : wo.heap.size < (D.alloc (.cells #[.int .i64 (pn : Int)] 3)).heap.size := by have := hbDa.size; omega
              have bcDa : (D.alloc (.cells #[.int .i64 (pn : Int)] 3)).cell? ⟨D.heap.size, 0, none⟩ = some (.int .i64 (pn : Int)) := by go_simp
              have bsDa : D.heap.size < (D.alloc (.cells #[.int .i64 (pn : Int)] 3)).heap.size := by simp
              refine hK1.out _ _ ⟨⟨HNDa.out.c1, e0Da, e1Da⟩, (HNDa.out.near.cellAt pn (by omega)).trans xp, (HNDa.out.near.cellAt qn (by omega)).trans xq⟩ (fun _ => ?_)
              clear hK1
              generalize (D.alloc (.cells #[.int .i64 (pn : Int)] 3)) = Da at *
              (try simp only [Act.put, List.setIfInBounds_toArray, List.set_cons_zero, List.set_cons_succ])
              refine wpHd_ready (rs := [22]) (by kernel_rfl) (by simp) (by decide) ?_
              refine AllHd.cons (o := { dst := some 75, op := Op.buildSlice 39 1 #[(0, Operand.tmp 74)], type := 39, pos := "spread.go:36", after := #[{ on := 21, ground := Ground.data }], guard := none }) rfl (fun K2 hK2 => ?_) AllHd.nil
              go_simp
              have hbDb : Below Da.heap.size Da (Da.alloc (.cells #[.int .i64 (qn : Int)] 3)) := (Below.refl _ Da).alloc (Nat.le_refl _) _
              have HNDb := Lib.hid (HNDa.out.kept hbDb)
              have e0Db : (Da.alloc (.cells #[.int .i64 (qn : Int)] 3)).cell? ⟨wo.heap.size, 0, none⟩ = some (.int .i64 (pn : Int)) := (hbDb.cell (p := ⟨wo.heap.size, 0, none⟩) szDa).trans e0Da
              have e1Db : (Da.alloc (.cells #[.int .i64 (qn : Int)] 3)).cell? ⟨wo.heap.size, 1, none⟩ = some (.int .i64 (qn : Int)) := (hbDb.cell (p := ⟨wo.heap.size, 1, none⟩) szDa).trans e1Da
              have szDb : wo.heap.size < (Da.alloc (.cells #[.int .i64 (qn : Int)] 3)).heap.size := by have := hbDb.size; omega
              have bcDb : (Da.alloc (.cells #[.int .i64 (qn : Int)] 3)).cell? ⟨Da.heap.size, 0, none⟩ = some (.int .i64 (qn : Int)) := by go_simp
              have bsDb : Da.heap.size < (Da.alloc (.cells #[.int .i64 (qn : Int)] 3)).heap.size := by simp
              refine hK2.out _ _ ⟨⟨HNDb.out.c1, e0Db, e1Db⟩, (HNDb.out.near.cellAt pn (by omega)).trans xp, (HNDb.out.near.cellAt qn (by omega)).trans xq⟩ (fun _ => ?_)
              clear hK2
              generalize (Da.alloc (.cells #[.int .i64 (qn : Int)] 3)) = Db at *
              (try simp only [Act.put, List.setIfInBounds_toArray, List.set_cons_zero, List.set_cons_succ])
              have bcX := (hbDb.cell (p := ⟨D.heap.size, 0, none⟩) bsDa).trans bcDa
              refine wpHd_ready (rs := [23]) (by kernel_rfl) (by simp) (by decide) ?_
              refine AllHd.cons (o := { dst := some 76, op := Op.call { callee := Callee.builtin Builtin.append, args := #[Operand.tmp 72, Operand.tmp 75], argTypes := #[39, 39] }, type := 39, pos := "spread.go:36", after := #[{ on := 19, ground := Ground.data }, { on := 22, ground := Ground.data }], guard := none }) rfl (fun K3 hK3 => ?_) AllHd.nil
              refine step_append_old rfl (.tmp 72) (.tmp 75) 39 rfl w.heap.size 3 i0 (.int .i64 0) 1 8 Tryd.underlying39 hi0 iz0 iz1 iz2 rfl (by decide) (.slice pa (f pn).length pc) (f pn).length (icells (f pn)) rfl (HNDb.out.row_at hpn xp) ⟨Da.heap.size, 0, none⟩ 1 1 [.int .i64 (qn : Int)] rfl rfl ?_ ?_ (by decide) ?_ ?_ ?_ ?_
              · intro j u hj
                match j, hj with
                | 0, hj => simp at hj; subst hj; exact bcDb
              · intro u hu; simp at hu; subst hu; rfl
              · have := HL.out pn; unfold maxLen; omega
              · have := HL.out pn; omega
              · omega
              intro gWp cWp Wp oWp dWp hWp lWp
              have HNWp := Lib.hid (HNDb.out.app hpn xp dWp hWp)
              have e0Wp := (HNDb.out.far (o := 0) hpn xp hWp szDb (fun g hg => by have := hvp.out g hg; omega)).trans e0Db
              have e1Wp := (HNDb.out.far (o := 1) hpn xp hWp szDb (fun g hg => by have := hvp.out g hg; omega)).trans e1Db
              have szWp : wo.heap.size < Wp.heap.size := by have := hWp.size; omega
              refine hK3.out _ _ ⟨⟨HNWp.out.c1, e0Wp, e1Wp⟩, (HNWp.out.near.cellAt pn (by omega)).trans xp, (HNWp.out.near.cellAt qn (by omega)).trans xq⟩ (fun _ => ?_)
              clear hK3
              (try simp only [Act.put, List.setIfInBounds_toArray, List.set_cons_zero, List.set_cons_succ])
              have bcY := (HNDb.out.far (o := 0) hpn xp hWp (b := D.heap.size) (by omega) (fun g hg => by have := hvp.out g hg; omega)).trans bcX
              refine wpHd_ready (rs := [35]) (by kernel_rfl) (by simp) (by decide) ?_
              refine AllHd.cons (o := { dst := some 88, op := Op.call { callee := Callee.builtin Builtin.append, args := #[Operand.tmp 84, Operand.tmp 87], argTypes := #[39, 39] }, type := 39, pos := "spread.go:36", after := #[{ on := 31, ground := Ground.data }, { on := 34, ground := Ground.data }, { on := 23, ground := Ground.chain }], guard := none }) rfl (fun K4 hK4 => ?_) AllHd.nil
              refine step_append_old rfl (.tmp 84) (.tmp 87) 39 rfl w.heap.size 3 i0 (.int .i64 0) 1 8 Tryd.underlying39 hi0 iz0 iz1 iz2 rfl (by decide) (.slice qa (f qn).length qc) (f qn).length (icells (f qn)) rfl (HNWp.out.row_at hqn xq) ⟨D.heap.size, 0, none⟩ 1 1 [.int .i64 (pn : Int)] rfl rfl ?_ ?_ (by decide) ?_ ?_ ?_ ?_
              · intro j u hj
                match j, hj with
                | 0, hj => simp at hj; subst hj; exact bcY
              · intro u hu; simp at hu; subst hu; rfl
              · have := HL.out qn; unfold maxLen; omega
              · have := HL.out qn; omega
              · omega
              intro gWq cWq Wq oWq dWq hWq lWq
              have HNWq := Lib.hid (HNWp.out.app hqn xq dWq hWq)
              have e0Wq := (HNWp.out.far (o := 0) hqn xq hWq szWp (fun g hg => by have := hvq.out g hg; omega)).trans e0Wp
              have e1Wq := (HNWp.out.far (o := 1) hqn xq hWq szWp (fun g hg => by have := hvq.out g hg; omega)).trans e1Wp
              have szWq : wo.heap.size < Wq.heap.size := by have := hWq.size; omega
              refine hK4.out _ _ ⟨⟨HNWq.out.c1, e0Wq, e1Wq⟩, (HNWq.out.near.cellAt pn (by omega)).trans xp, (HNWq.out.near.cellAt qn (by omega)).trans xq⟩ (fun _ => ?_)
              clear hK4
              (try simp only [Act.put, List.setIfInBounds_toArray, List.set_cons_zero, List.set_cons_succ])
              have HFin := Lib.hid (HNDb.out.edge hpn hqn xp xq oWp dWp hWp lWp (Below.refl _ Wp) oWq dWq hWq lWq HF.out)
              have HBf := Lib.hid (HNDb.out.edge_below hpn hqn xp xq ((HBD.out.trans (hbDa.mono hz1)).trans (hbDb.mono (by omega))) (by omega) hWp (Below.refl _ Wp) hWq (.slice (some ⟨gWp, 0, none⟩) ((f pn).length + 1) cWp) (.slice (some ⟨gWq, 0, none⟩) ((f qn).length + 1) cWq))
              have hS0 : Wq.cell? ⟨nb, 1, none⟩ = some (.slice (some ⟨ob, 0, none⟩) nd nd) ∧ Wq.cell? ⟨wo.heap.size, 0, none⟩ = some (.int .i64 (pn : Int)) ∧ Wq.cell? ⟨wo.heap.size, 1, none⟩ = some (.int .i64 (qn : Int)) := ⟨HNWq.out.c1, e0Wq, e1Wq⟩
              have y1 := (HNWq.out.near.cellAt pn (by omega)).trans xp
              have y2 := HNWq.out.near.frozenAt pn
              have y3 : (Wq.setCell ⟨ob, pn, none⟩ (.slice (some ⟨gWp, 0, none⟩) ((f pn).length + 1) cWp)).cell? ⟨ob, qn, none⟩ = _ := (World.ownsRow.stored HNWq.out.near pn (.slice (some ⟨gWp, 0, none⟩) ((f pn).length + 1) cWp)).1.cellAt qn (by omega)
              have y4 := (World.ownsRow.stored HNWq.out.near pn (.slice (some ⟨gWp, 0, none⟩) ((f pn).length + 1) cWp)).1.frozenAt qn
              have y5 : ∃ z, (xs.set pn (.slice (some ⟨gWp, 0, none⟩) ((f pn).length + 1) cWp))[qn]? = some z := ⟨_, List.getElem?_eq_getElem (by have := HNWq.out.near.1; rw [List.length_set]; omega)⟩
              obtain ⟨z, y5⟩ := y5
              rw [y5] at y3
              refine wpHd_tail (by kernel_rfl) ?_
              (refine wpAnyH_take (i := 36) (oi := { dst := some 89, op := Op.indexAddr 55 (Operand.tmp 56) (Operand.tmp 58), type := 0, pos := "spread.go:36", after := #[{ on := 3, ground := Ground.data }, { on := 5, ground := Ground.data }, { on := 0, ground := Ground.phase }, { on := 1, ground := Ground.phase }, { on := 2, ground := Ground.phase }, { on := 3, ground := Ground.phase }, { on := 4, ground := Ground.phase }, { on := 5, ground := Ground.phase }, { on := 6, ground := Ground.textOnly Go.Departure.lateStores }, { on := 7, ground := Ground.textOnly Go.Departure.lateStoresUnsure }, { on := 8, ground := Ground.textOnly Go.Departure.lateStoresUnsure }, { on := 9, ground := Ground.phase }, { on := 10, ground := Ground.textOnly Go.Departure.lateStoresUnsure }, { on := 11, ground := Ground.textOnly Go.Departure.lateStoresUnsure }, { on := 12, ground := Ground.phase }, { on := 13, ground := Ground.phase }, { on := 14, ground := Ground.phase }, { on := 15, ground := Ground.phase }, { on := 16, ground := Ground.phase }, { on := 17, ground := Ground.phase }, { on := 18, ground := Ground.phase }, { on := 19, ground := Ground.phase }, { on := 20, ground := Ground.phase }, { on := 21, ground := Ground.phase }, { on := 22, ground := Ground.phase }, { on := 23, ground := Ground.phase }, { on := 24, ground := Ground.textOnly Go.Departure.lateStores }, { on := 25, ground := Ground.textOnly Go.Departure.lateStoresUnsure }, { on := 26, ground := Ground.textOnly Go.Departure.lateStoresUnsure }, { on := 27, ground := Ground.phase }, { on := 28, ground := Ground.textOnly Go.Departure.lateStoresUnsure }, { on := 29, ground := Ground.textOnly Go.Departure.lateStoresUnsure }, { on := 30, ground := Ground.textOnly Go.Departure.lateStoresUnsure }, { on := 31, ground := Ground.phase }, { on := 32, ground := Ground.textOnly Go.Departure.lateStoresUnsure }, { on := 33, ground := Ground.textOnly Go.Departure.lateStoresUnsure }, { on := 34, ground := Ground.textOnly Go.Departure.lateStoresUnsure }, { on := 35, ground := Ground.phase }], guard := none }) (v := ?_) rfl (by kernel_rfl) (by kernel_rfl) (by kernel_rfl) (fun _ _ _ h => h) (Or.inl ⟨by rfl, ?_⟩) (by assumption) ?_; rotate_left; (focus (intro w hSw; (try dsimp only at hSw); go_simp; (try with_reducible rfl))); (try simp only [Act.put, List.setIfInBounds_toArray, List.set_cons_zero, List.set_cons_succ]))
              refine wpAnyH_ready (rs := [37]) (by kernel_rfl) (by simp) ?_
              refine AllReadyH.cons (o := { dst := none, op := Op.store 39 (Operand.tmp 89) (Operand.tmp 76), type := 0, pos := "spread.go:36", after := #[{ on := 36, ground := Ground.data }, { on := 23, ground := Ground.data }, { on := 35, ground := Ground.chain }, { on := 0, ground := Ground.phase }, { on := 1, ground := Ground.phase }, { on := 2, ground := Ground.phase }, { on := 3, ground := Ground.phase }, { on := 4, ground := Ground.phase }, { on := 5, ground := Ground.phase }, { on := 6, ground := Ground.textOnly Go.Departure.lateStores }, { on := 7, ground := Ground.textOnly Go.Departure.lateStoresUnsure }, { on := 8, ground := Ground.textOnly Go.Departure.lateStoresUnsure }, { on := 9, ground := Ground.phase }, { on := 10, ground := Ground.textOnly Go.Departure.lateStoresUnsure }, { on := 11, ground := Ground.textOnly Go.Departure.lateStoresUnsure }, { on := 12, ground := Ground.phase }, { on := 13, ground := Ground.phase }, { on := 14, ground := Ground.phase }, { on := 15, ground := Ground.phase }, { on := 16, ground := Ground.phase }, { on := 17, ground := Ground.phase }, { on := 18, ground := Ground.phase }, { on := 19, ground := Ground.phase }, { on := 20, ground := Ground.phase }, { on := 21, ground := Ground.phase }, { on := 22, ground := Ground.phase }, { on := 23, ground := Ground.phase }, { on := 24, ground := Ground.textOnly Go.Departure.lateStores }, { on := 25, ground := Ground.textOnly Go.Departure.lateStoresUnsure }, { on := 26, ground := Ground.textOnly Go.Departure.lateStoresUnsure }, { on := 27, ground := Ground.phase }, { on := 28, ground := Ground.textOnly Go.Departure.lateStoresUnsure }, { on := 29, ground := Ground.textOnly Go.Departure.lateStoresUnsure }, { on := 30, ground := Ground.textOnly Go.Departure.lateStoresUnsure }, { on := 31, ground := Ground.phase }, { on := 32, ground := Ground.textOnly Go.Departure.lateStoresUnsure }, { on := 33, ground := Ground.textOnly Go.Departure.lateStoresUnsure }, { on := 34, ground := Ground.textOnly Go.Departure.lateStoresUnsure }, { on := 35, ground := Ground.phase }], guard := none }) rfl (fun KA hKA => ?_) AllReadyH.nil
              go_simp
              refine hKA.out _ _ (by refine ⟨?_, ?_, ?_⟩ <;> go_simp) (fun hSA => ?_)
              clear hKA
              (try simp only [Act.put, List.setIfInBounds_toArray, List.set_cons_zero, List.set_cons_succ])
              (refine wpAnyH_take (i := 38) (oi := { dst := some 90, op := Op.indexAddr 55 (Operand.tmp 62) (Operand.tmp 64), type := 0, pos := "spread.go:36", after := #[{ on := 9, ground := Ground.data }, { on := 11, ground := Ground.data }, { on := 0, ground := Ground.phase }, { on := 1, ground := Ground.phase }, { on := 2, ground := Ground.phase }, { on := 3, ground := Ground.phase }, { on := 4, ground := Ground.phase }, { on := 5, ground := Ground.phase }, { on := 6, ground := Ground.phase }, { on := 7, ground := Ground.phase }, { on := 8, ground := Ground.phase }, { on := 9, ground := Ground.phase }, { on := 10, ground := Ground.phase }, { on := 11, ground := Ground.phase }, { on := 12, ground := Ground.phase }, { on := 13, ground := Ground.phase }, { on := 14, ground := Ground.phase }, { on := 15, ground := Ground.phase }, { on := 16, ground := Ground.phase }, { on := 17, ground := Ground.phase }, { on := 18, ground := Ground.phase }, { on := 19, ground := Ground.phase }, { on := 20, ground := Ground.phase }, { on := 21, ground := Ground.phase }, { on := 22, ground := Ground.phase }, { on := 23, ground := Ground.phase }, { on := 24, ground := Ground.phase }, { on := 25, ground := Ground.phase }, { on := 26, ground := Ground.phase }, { on := 27, ground := Ground.phase }, { on := 28, ground := Ground.phase }, { on := 29, ground := Ground.phase }, { on := 30, ground := Ground.phase }, { on := 31, ground := Ground.phase }, { on := 32, ground := Ground.phase }, { on := 33, ground := Ground.phase }, { on := 34, ground := Ground.phase }, { on := 35, ground := Ground.phase }, { on := 36, ground := Ground.phase }, { on := 37, ground := Ground.phase }], guard := none }) (v := ?_) rfl (by kernel_rfl) (by kernel_rfl) (by kernel_rfl) (fun _ _ _ h => h) (Or.inl ⟨by rfl, ?_⟩) (by assumption) ?_; rotate_left; (focus (intro w hSw; (try dsimp only at hSw); go_simp; (try with_reducible rfl))); (try simp only [Act.put, List.setIfInBounds_toArray, List.set_cons_zero, List.set_cons_succ]))
              refine wpAnyH_ready (rs := [39]) (by kernel_rfl) (by simp) ?_
              refine AllReadyH.cons (o := { dst := none, op := Op.store 39 (Operand.tmp 90) (Operand.tmp 88), type := 0, pos := "spread.go:36", after := #[{ on := 38, ground := Ground.data }, { on := 35, ground := Ground.data }, { on := 37, ground := Ground.chain }, { on := 0, ground := Ground.phase }, { on := 1, ground := Ground.phase }, { on := 2, ground := Ground.phase }, { on := 3, ground := Ground.phase }, { on := 4, ground := Ground.phase }, { on := 5, ground := Ground.phase }, { on := 6, ground := Ground.phase }, { on := 7, ground := Ground.phase }, { on := 8, ground := Ground.phase }, { on := 9, ground := Ground.phase }, { on := 10, ground := Ground.phase }, { on := 11, ground := Ground.phase }, { on := 12, ground := Ground.phase }, { on := 13, ground := Ground.phase }, { on := 14, ground := Ground.phase }, { on := 15, ground := Ground.phase }, { on := 16, ground := Ground.phase }, { on := 17, ground := Ground.phase }, { on := 18, ground := Ground.phase }, { on := 19, ground := Ground.phase }, { on := 20, ground := Ground.phase }, { on := 21, ground := Ground.phase }, { on := 22, ground := Ground.phase }, { on := 23, ground := Ground.phase }, { on := 24, ground := Ground.phase }, { on := 25, ground := Ground.phase }, { on := 26, ground := Ground.phase }, { on := 27, ground := Ground.phase }, { on := 28, ground := Ground.phase }, { on := 29, ground := Ground.phase }, { on := 30, ground := Ground.phase }, { on := 31, ground := Ground.phase }, { on := 32, ground := Ground.phase }, { on := 33, ground := Ground.phase }, { on := 34, ground := Ground.phase }, { on := 35, ground := Ground.phase }, { on := 36, ground := Ground.phase }, { on := 37, ground := Ground.phase }], guard := none }) rfl (fun KB hKB => ?_) AllReadyH.nil
              go_simp
              refine hKB.out _ _ (by refine ⟨?_, ?_, ?_⟩ <;> go_simp) (fun hSB => ?_)
              clear hKB
              (try simp only [Act.put, List.setIfInBounds_toArray, List.set_cons_zero, List.set_cons_succ])
              refine wpAnyH_done (by kernel_rfl) ?_ _
              clear y1 y2 y3 y4 y5 hSA hSB hS0
              go_wp2_with fail
              go_roundg (E.length - (m + 1))
              case measure => omega
              case rel => exact ⟨m + 1, _, by omega, by go_num, HFin.out, HOkn.out, HBf.out⟩
      · obtain rfl : m = E.length := by omega
        have hN := HNw.out
        rw [List.take_of_length_le (Nat.le_refl _)] at hN
        have HAll := Lib.hid (show ∀ x ∈ E, edOk nd x from fun x hx => by
          obtain ⟨j, hj, rfl⟩ := List.getElem_of_mem hx
          exact HOk.out j hj hj)
        obtain ⟨f, hf⟩ : ∃ f : Nat → List Int, f = fun i : Nat => nearL E (i : Int) := ⟨_, rfl⟩
        rw [← hf] at hN
        have HF := Lib.hid hf
        have HRw := Lib.hid (show RwAt w wr nb ob vk (.slice none 0 0) K nd f xs 0 [] from ⟨hN, World.ownsRow_nil _ _ _ _, ⟨rfl, fun k h => by simp at h, fun i j h1 => by simp at h1⟩, hbel, hnbB⟩)
        clear hf hN HNw
        have hmk := make_ntN K.length h8
        obtain ⟨j0, hj0, jz0, jz1, jz2⟩ := info_parts info_ntsN
        obtain ⟨wo, rfl⟩ : ∃ wo : World, wo = wr := ⟨_, rfl⟩
        go_wp2_with fail
        go_loopg [93] nd (fun gk x93 wr => ∃ (i : Nat) (vh : Value) (rb : List (Nat × Nat)), gk + i = nd ∧ x93 = .int .i64 i ∧ RwAt w wr nb ob vk vh K nd f xs i rb)
        case atStart => exact ⟨0, _, [], by omega, rfl, HRw.out⟩
        case round =>
          obtain ⟨i, vh, rb, hi, rfl, hrw⟩ := hrel
          by_cases hlt3 : i < nd
          · obtain ⟨ha, hc3, rfl⟩ := own_len hrw.held
            have r2 : wr.drew.cell? ⟨nb, 2, none⟩ = some (.slice ha i hc3) := hrw.net.c2
            have hne : ∀ p ∈ rb, p.1 < wr.drew.heap.size := fun p hp => by
              obtain ⟨q, hq, rfl⟩ := List.getElem_of_mem hp
              exact (hrw.rows.row q (by have := hrw.rows.len; omega) hq).2.form.2.1
            have HRD := Lib.hid (hrw.kept (w' := wr.drew) (by exact belz))
            have hszD : w.heap.size ≤ wr.drew.heap.size := hrw.below.size
            clear hrw HRw
            go_upto_region 21 with fail
            refine wp_region_held_drew (S := fun _ => True) (by kernel_rfl) trivial ?_
            intro hTr
            refine wpAnyH_head (f := 10) 10 3 (fun w' => w'.cell? ⟨nb, 2, none⟩ = some (.slice ha i hc3)) (fun _ _ => trivial) (by kernel_rfl) r2 ?_
            intro hS
            (refine wpHd_take (i := 0) (oi := { dst := some 95, op := Op.move (Operand.tmp 8), type := 42, pos := "spread.go:39", after := #[], guard := none }) (v := ?_) rfl (by kernel_rfl) (by decide) (by kernel_rfl) (by kernel_rfl) (fun _ _ _ h => h) (Or.inl ⟨by rfl, ?_⟩) (by assumption) ?_; rotate_left; (focus (intro w hSw; (try dsimp only at hSw); go_simp; (try with_reducible rfl))); (try simp only [Act.put, List.setIfInBounds_toArray, List.set_cons_zero, List.set_cons_succ]))
            (refine wpHd_take (i := 1) (oi := { dst := some 96, op := Op.move (Operand.tmp 8), type := 42, pos := "spread.go:39", after := #[], guard := none }) (v := ?_) rfl (by kernel_rfl) (by decide) (by kernel_rfl) (by kernel_rfl) (fun _ _ _ h => h) (Or.inl ⟨by rfl, ?_⟩) (by assumption) ?_; rotate_left; (focus (intro w hSw; (try dsimp only at hSw); go_simp; (try with_reducible rfl))); (try simp only [Act.put, List.setIfInBounds_toArray, List.set_cons_zero, List.set_cons_succ]))
            (refine wpHd_take (i := 2) (oi := { dst := some 97, op := Op.nilCheck (Operand.tmp 96), type := 0, pos := "spread.go:39", after := #[{ on := 1, ground := Ground.data }], guard := none }) (v := ?_) rfl (by kernel_rfl) (by decide) (by kernel_rfl) (by kernel_rfl) (fun _ _ _ h => h) (Or.inl ⟨by rfl, ?_⟩) (by assumption) ?_; rotate_left; (focus (intro w hSw; (try dsimp only at hSw); go_simp; (try with_reducible rfl))); (try simp only [Act.put, List.setIfInBounds_toArray, List.set_cons_zero, List.set_cons_succ]))
            (refine wpHd_take (i := 3) (oi := { dst := some 98, op := Op.fieldAddr 97 (Operand.tmp 97) 2, type := 0, pos := "spread.go:39", after := #[{ on := 2, ground := Ground.data }], guard := none }) (v := ?_) rfl (by kernel_rfl) (by decide) (by kernel_rfl) (by kernel_rfl) (fun _ _ _ h => h) (Or.inl ⟨by rfl, ?_⟩) (by assumption) ?_; rotate_left; (focus (intro w hSw; (try dsimp only at hSw); go_simp; (try with_reducible rfl))); (try simp only [Act.put, List.setIfInBounds_toArray, List.set_cons_zero, List.set_cons_succ]))
            (refine wpHd_take (i := 4) (oi := { dst := some 99, op := Op.load 95 (Operand.tmp 98), type := 95, pos := "spread.go:39", after := #[{ on := 3, ground := Ground.data }], guard := none }) (v := ?_) rfl (by kernel_rfl) (by decide) (by kernel_rfl) (by kernel_rfl) (fun _ _ _ h => h) (Or.inl ⟨by rfl, ?_⟩) (by assumption) ?_; rotate_left; (focus (intro w hSw; (try dsimp only at hSw); go_simp; (try with_reducible rfl))); (try simp only [Act.put, List.setIfInBounds_toArray, List.set_cons_zero, List.set_cons_succ]))
            (refine wpHd_take (i := 5) (oi := { dst := some 100, op := Op.move (Operand.tmp 0), type := 39, pos := "spread.go:39", after := #[], guard := none }) (v := ?_) rfl (by kernel_rfl) (by decide) (by kernel_rfl) (by kernel_rfl) (fun _ _ _ h => h) (Or.inl ⟨by rfl, ?_⟩) (by assumption) ?_; rotate_left; (focus (intro w hSw; (try dsimp only at hSw); go_simp; (try with_reducible rfl))); (try simp only [Act.put, List.setIfInBounds_toArray, List.set_cons_zero, List.set_cons_succ]))
            (refine wpHd_take (i := 6) (oi := { dst := some 101, op := Op.call { callee := Callee.builtin Builtin.len, args := #[Operand.tmp 100], argTypes := #[39] }, type := 3, pos := "spread.go:39", after := #[{ on := 5, ground := Ground.data }], guard := none }) (v := ?_) rfl (by kernel_rfl) (by decide) (by kernel_rfl) (by kernel_rfl) (fun _ _ _ h => h) (Or.inl ⟨by rfl, ?_⟩) (by assumption) ?_; rotate_left; (focus (intro w hSw; (try dsimp only at hSw); go_simp; (try with_reducible rfl))); (try simp only [Act.put, List.setIfInBounds_toArray, List.set_cons_zero, List.set_cons_succ]))
            clear hS
            generalize wr.drew = D at *
            refine wpHd_ready (rs := [7]) (by kernel_rfl) (by simp) (by decide) ?_
            refine AllHd.cons (o := { dst := some 102, op := Op.makeSlice 41 (Operand.tmp 101) (Operand.tmp 101), type := 41, pos := "spread.go:39", after := #[{ on := 6, ground := Ground.data }, { on := 6, ground := Ground.data }], guard := none }) rfl (fun K1 hK1 => ?_) AllHd.nil
            go_simp
            have hbX : Below D.heap.size D (D.alloc (.cells (madeCells zCs (K.length * 4)) 23)) := (Below.refl _ D).alloc (Nat.le_refl _) _
            have hRX := made_NtRow D w.heap.size K.length hszD h8
            have HRX := Lib.hid (HRD.out.kept hbX)
            have hsX : D.heap.size < (D.alloc (.cells (madeCells zCs (K.length * 4)) 23)).heap.size := by simp
            refine hK1.out _ _ HRX.out.net.c2 (fun _ => ?_)
            clear hK1 hmk
            generalize (D.alloc (.cells (madeCells zCs (K.length * 4)) 23)) = X at *
            (try simp only [Act.put, List.setIfInBounds_toArray, List.set_cons_zero, List.set_cons_succ])
            refine wpHd_ready (rs := [8]) (by kernel_rfl) (by simp) (by decide) ?_
            refine AllHd.cons (o := { dst := some 103, op := Op.buildSlice 95 1 #[(0, Operand.tmp 102)], type := 95, pos := "spread.go:39", after := #[{ on := 7, ground := Ground.data }], guard := none }) rfl (fun K2 hK2 => ?_) AllHd.nil
            go_simp
            have hbY : Below X.heap.size X (X.alloc (.cells #[.slice (some ⟨D.heap.size, 0, none⟩) K.length K.length] 41)) := (Below.refl _ X).alloc (Nat.le_refl _) _
            have hRY := hRX.below hbY
            have HRY := Lib.hid (HRX.out.kept hbY)
            have bcY : (X.alloc (.cells #[.slice (some ⟨D.heap.size, 0, none⟩) K.length K.length] 41)).cell? ⟨X.heap.size, 0, none⟩ = some (.slice (some ⟨D.heap.size, 0, none⟩) K.length K.length) := by go_simp
            have hsY : X.heap.size < (X.alloc (.cells #[.slice (some ⟨D.heap.size, 0, none⟩) K.length K.length] 41)).heap.size := by simp
            refine hK2.out _ _ HRY.out.net.c2 (fun _ => ?_)
            clear hK2
            generalize (X.alloc (.cells #[.slice (some ⟨D.heap.size, 0, none⟩) K.length K.length] 41)) = Y at *
            (try simp only [Act.put, List.setIfInBounds_toArray, List.set_cons_zero, List.set_cons_succ])
            refine wpHd_ready (rs := [9]) (by kernel_rfl) (by simp) (by decide) ?_
            refine AllHd.cons (o := { dst := some 104, op := Op.call { callee := Callee.builtin Builtin.append, args := #[Operand.tmp 99, Operand.tmp 103], argTypes := #[95, 95] }, type := 95, pos := "spread.go:39", after := #[{ on := 4, ground := Ground.data }, { on := 8, ground := Ground.data }], guard := none }) rfl (fun K3 hK3 => ?_) AllHd.nil
            refine step_append_old rfl (.tmp 99) (.tmp 103) 95 rfl w.heap.size 41 j0 (.slice none 0 0) 1 24 Tryd.underlying95 hj0 jz0 jz1 jz2 rfl (by decide) (.slice ha i hc3) i (rbV K.length rb) rfl HRY.out.held ⟨X.heap.size, 0, none⟩ 1 1 [.slice (some ⟨D.heap.size, 0, none⟩) K.length K.length] rfl rfl ?_ ?_ (by decide) ?_ ?_ ?_ ?_
            · intro j u hj
              match j, hj with
              | 0, hj => simp at hj; subst hj; exact bcY
            · intro u hu; simp at hu; subst hu; rfl
            · unfold maxLen; omega
            · omega
            · omega
            intro g4 c4 Z o4 d4 h4 l4
            have hfin := HRY.out.step hRY (fun p hp => by have := hne p hp; omega) o4 h4
            have q2 : Z.cell? ⟨nb, 2, none⟩ = some (.slice ha i hc3) := by
              obtain ⟨cur, hc⟩ := HRY.out.net.ty
              exact (World.cell?_of_block (a := ⟨nb, 2, none⟩) (type_apart HRY.out.held h4 hc (by decide))).trans HRY.out.net.c2
            have q3 : Z.frozen? ⟨nb, 2, none⟩ = false := by
              obtain ⟨cur, hc⟩ := HRY.out.net.ty
              exact (World.frozen?_of_block (a := ⟨nb, 2, none⟩) (type_apart HRY.out.held h4 hc (by decide))).trans HRY.out.net.f2
            have HFin := Lib.hid hfin
            refine hK3.out _ _ q2 (fun _ => ?_)
            clear hK3 hfin
            (try simp only [Act.put, List.setIfInBounds_toArray, List.set_cons_zero, List.set_cons_succ])
            refine wpHd_tail (by kernel_rfl) ?_
            (refine wpAnyH_take (i := 10) (oi := { dst := some 105, op := Op.nilCheck (Operand.tmp 95), type := 0, pos := "spread.go:39", after := #[{ on := 0, ground := Ground.data }, { on := 0, ground := Ground.phase }, { on := 1, ground := Ground.phase }, { on := 2, ground := Ground.phase }, { on := 3, ground := Ground.phase }, { on := 4, ground := Ground.phase }, { on := 5, ground := Ground.phase }, { on := 6, ground := Ground.phase }, { on := 7, ground := Ground.phase }, { on := 8, ground := Ground.phase }, { on := 9, ground := Ground.phase }], guard := none }) (v := ?_) rfl (by kernel_rfl) (by kernel_rfl) (by kernel_rfl) (fun _ _ _ h => h) (Or.inl ⟨by rfl, ?_⟩) (by assumption) ?_; rotate_left; (focus (intro w hSw; (try dsimp only at hSw); go_simp; (try with_reducible rfl))); (try simp only [Act.put, List.setIfInBounds_toArray, List.set_cons_zero, List.set_cons_succ]))
            (refine wpAnyH_take (i := 11) (oi := { dst := some 106, op := Op.fieldAddr 97 (Operand.tmp 105) 2, type := 0, pos := "spread.go:39", after := #[{ on := 10, ground := Ground.data }, { on := 0, ground := Ground.phase }, { on := 1, ground := Ground.phase }, { on := 2, ground := Ground.phase }, { on := 3, ground := Ground.phase }, { on := 4, ground := Ground.phase }, { on := 5, ground := Ground.phase }, { on := 6, ground := Ground.phase }, { on := 7, ground := Ground.phase }, { on := 8, ground := Ground.phase }, { on := 9, ground := Ground.phase }], guard := none }) (v := ?_) rfl (by kernel_rfl) (by kernel_rfl) (by kernel_rfl) (fun _ _ _ h => h) (Or.inl ⟨by rfl, ?_⟩) (by assumption) ?_; rotate_left; (focus (intro w hSw; (try dsimp only at hSw); go_simp; (try with_reducible rfl))); (try simp only [Act.put, List.setIfInBounds_toArray, List.set_cons_zero, List.set_cons_succ]))
            refine wpAnyH_ready (rs := [12]) (by kernel_rfl) (by simp) ?_
            refine AllReadyH.cons (o := { dst := none, op := Op.store 95 (Operand.tmp 106) (Operand.tmp 104), type := 0, pos := "spread.go:39", after := #[{ on := 11, ground := Ground.data }, { on := 9, ground := Ground.data }, { on := 9, ground := Ground.chain }, { on := 0, ground := Ground.phase }, { on := 1, ground := Ground.phase }, { on := 2, ground := Ground.phase }, { on := 3, ground := Ground.phase }, { on := 4, ground := Ground.phase }, { on := 5, ground := Ground.phase }, { on := 6, ground := Ground.phase }, { on := 7, ground := Ground.phase }, { on := 8, ground := Ground.phase }, { on := 9, ground := Ground.phase }], guard := none }) rfl (fun KA hKA => ?_) AllReadyH.nil
            go_simp
            refine hKA.out _ _ trivial (fun hSA => ?_)
            clear hKA
            (try simp only [Act.put, List.setIfInBounds_toArray, List.set_cons_zero, List.set_cons_succ])
            refine wpAnyH_done (by kernel_rfl) ?_ _
            clear hSA
            go_wp2_with fail
            go_roundg (nd - (i + 1))
            case measure => omega
            case rel => exact ⟨i + 1, _, _, by omega, by go_num, HFin.out⟩
          · obtain rfl : i = nd := by omega
            have hnet := hrw.net_all
            have hbe := hrw.below
            have HNet := Lib.hid hnet
            clear hrw hnet HRw
            go_wp2_with fail
            go_ret2
            refine .inr ⟨HAll.out, nb, vk, .slice (some ⟨ob, 0, none⟩) i i, vh, rb, rfl, ?_, hnbB, hbe⟩
            have h9 := HNet.out
            rw [HF.out] at h9
            exact h9
end Go.Proofs.YtbcehnhiedbbbaaDoor
