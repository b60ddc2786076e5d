/- The walk of glob.Match: sets of places, byte by byte. -/
import Derived.BigQuiet
import Derived.Deep.QuietTactic
import Derived.Laws.CopyOwn
import Derived.Outline
import Derived.Test.YtiigjnccoeadlaaPAx0
import Derived.Test.YtiigjnccoeadlaaXEmptyW
import Derived.Test.YtiigjnccoeadlaaXGlobApp
import Derived.Test.YtiigjnccoeadlaaXGlobBase
import Derived.Test.YtiigjnccoeadlaaXGlobSpec
import Derived.Test.YtiigjnccoeadlaaXSignsW
import Derived.Test.YtiigjnccoeadlaaXTakesW
namespace Go.Proofs.Ytiigjnccoeadlaa.PA
open Go.RowKit Go.Proofs.YtiigjnccoeadlaaW.PrintWords Go.Proofs.YtiigjnccoeadlaaW.PrintLast Go.Proofs.YtiigjnccoeadlaaW.PrintMore
attribute [local go_sem] max2_int min2_int max_two min_two max_three min_three max_four min_four
set_option linter.unusedVariables false
set_option linter.unusedSimpArgs false
theorem mkb_event {P : Program} {ops : Array Oper} {rest : List Oper} {o : Oper} {a : Act} {Q : Exit → Act → World → Prop} {W : World} (hgd : o.guard = none) {N : Tmp} (_hd : o.dst = some N) {m : Nat} {cs : Array Value} {t : TypeId}
    (hrun : (execOp a.eval o).run P W = .ok (.value (.slice (some ⟨W.heap.size, 0, none⟩) m m)) (W.alloc (.cells cs t (0, 0))))
    (h : ∀ g, g = W.heap.size → ∀ w1, w1.heap[g]? = some (.cells cs t (0, 0)) → Below W.heap.size W w1 → wpList P ops Q rest (a.put o.dst (.slice (some ⟨g, 0, none⟩) m m)) w1) : wpList P ops Q (o :: rest) a W :=
  Kd.event_run hgd hrun (h _ rfl _ (blk_new W _) (below_alloc (Below.refl _ _) _))
def nxS (l : List Tok) (f : Nat → Bool) (c : Int) : Nat → (Nat → Bool)
  | 0 => noS
  | k + 1 => if (f k && tkB (l.getD k .one) c) = true then (if starT (l.getD k .one) = true then addS (nxS l f c k) k else addS (nxS l f c k) (k + 1)) else nxS l f c k
def stS (l : List Tok) (s : ByteArray) : Nat → (Nat → Bool)
  | 0 => emS l (addS noS 0) l.length
  | i + 1 => emS l (nxS l (stS l s i) (bt s (i : Int)) l.length) l.length
theorem stS_succ (l : List Tok) (s : ByteArray) (i : Nat) : stS l s (i + 1) = emS l (nxS l (stS l s i) (bt s (i : Int)) l.length) l.length := rfl
theorem SgHas.drewN {w : World} {g o : Nat} {x : Sg} (h : SgHas w g o x) (q : Nat) : SgHas (w.drewN q) g o x := fun i u hi => by
  have := h i u hi
  simpa using this
structure MW (T BO : Nat) (w wr : World) (A : Option Addr) (l : List Tok) (ga : Nat) (F : Nat → Bool) : Prop where
  below : Below w.heap.size w wr
  sg : SgVal T wr A (l.map codeSg)
  blk : wr.heap[ga]? = some (.cells (bA F (l.length + 1)) BO (0, 0))
  lo : w.heap.size ≤ ga
structure MW2 (T BO : Nat) (w wr : World) (A : Option Addr) (l : List Tok) (ga : Nat) (F : Nat → Bool) (gb : Nat) (G : Nat → Bool) : Prop extends MW T BO w wr A l ga F where
  blk2 : wr.heap[gb]? = some (.cells (bA G (l.length + 1)) BO (0, 0))
  lo2 : ga < gb
  ne : T ≠ BO
section
variable {T BO : Nat} {w wr w2 : World} {A : Option Addr} {l : List Tok} {ga gb : Nat} {F G : Nat → Bool}
theorem MW.step (h : MW T BO w wr A l ga F) (hb : Below wr.heap.size wr w2) : MW T BO w w2 A l ga F := ⟨below_step h.below hb, h.sg.step hb, blk_below h.blk hb, h.lo⟩
theorem MW.row (h : MW T BO w wr A l ga F) (hne : T ≠ BO) (F2 : Nat → Bool) : MW T BO w (wr.setRow ga (bA F2 (l.length + 1))) A l ga F2 :=
  ⟨below_setRow h.below h.lo _, h.sg.row h.blk hne _, setRow_heap _ _ _ _ _ _ h.blk, h.lo⟩
theorem MW.put (h : MW T BO w wr A l ga F) (hne : T ≠ BO) (i : Nat) : MW T BO w (wr.setCell ⟨ga, i, none⟩ (.bool true)) A l ga (addS F i) := by
  have := h.row hne (addS F i)
  rwa [← bA_set, ← setRow_cell h.blk] at this
theorem MW2.make (h : MW 45 4 w wr A l ga F) {w9 : World} (hg : gb = wr.heap.size) (hbox : w9.heap[gb]? = some (.cells (bA noS (l.length + 1)) 4 (0, 0))) (hb : Below wr.heap.size wr w9) : MW2 45 4 w w9 A l ga F gb noS :=
  ⟨h.step hb, hbox, by rw [hg]; exact blk_lt h.blk, by decide⟩
theorem MW2.step (h : MW2 T BO w wr A l ga F gb G) (hb : Below wr.heap.size wr w2) : MW2 T BO w w2 A l ga F gb G := ⟨h.toMW.step hb, blk_below h.blk2 hb, h.lo2, h.ne⟩
theorem MW2.put (h : MW2 T BO w wr A l ga F gb G) (i : Nat) : MW2 T BO w (wr.setCell ⟨gb, i, none⟩ (.bool true)) A l ga F gb (addS G i) := by
  rw [setRow_cell h.blk2, bA_set]
  exact ⟨⟨below_setRow h.below (Nat.le_trans h.lo (Nat.le_of_lt h.lo2)) _, h.sg.row h.blk2 h.ne _, (setRow_other _ _ _ _ (Nat.ne_of_lt h.lo2)).trans h.blk, h.lo⟩, setRow_heap _ _ _ _ _ _ h.blk2, h.lo2, h.ne⟩
theorem MW2.take (h : MW2 T BO w wr A l ga F gb G) : MW T BO w wr A l gb G := ⟨h.below, h.sg, h.blk2, Nat.le_trans h.lo (Nat.le_of_lt h.lo2)⟩
theorem MW.make {v : Value} (h : SgRow 45 w wr v (l.map codeSg)) (hS : SgVal 45 wr A (l.map codeSg)) {w9 : World} (hg : ga = wr.heap.size) (hbox : w9.heap[ga]? = some (.cells (bA noS (l.length + 1)) 4 (0, 0))) (hb : Below wr.heap.size wr w9) : MW 45 4 w w9 A l ga noS :=
  ⟨below_step h.1 hb, hS.step hb, hbox, by rw [hg]; exact below_size h.1⟩
end
theorem parse_len : ∀ (n : Nat) (s : List Int) (l : List Tok), parse n s = some l → l.length ≤ s.length
  | 0, _, _, h => by simp [parse] at h
  | n + 1, [], l, h => by
    simp [parse] at h
    subst h
    simp
  | n + 1, c :: r, l, h => by
    have key : ∀ (q : List Int) (t : Tok), q.length ≤ r.length → (parse n q).map (t :: ·) = some l → l.length ≤ (c :: r).length := fun q t hq hp => by
      obtain ⟨l2, h2, h3⟩ := Option.map_eq_some_iff.1 hp
      have := parse_len n q l2 h2
      rw [← h3]
      simp
      omega
    rw [parse_eq] at h
    split at h
    · exact key _ _ (sk_len r) h
    · split at h
      · exact key _ _ (Nat.le_refl _) h
      · split at h
        · cases hc : cls0 r with
          | none => rw [hc] at h; simp at h
          | some tr =>
            rw [hc] at h
            exact key _ _ (Nat.le_of_lt (cls0_len hc)) h
        · split at h
          · cases r with
            | nil => simp at h
            | cons d r' => exact key _ _ (by simp) h
          · exact key _ _ (Nat.le_refl _) h
set_option maxHeartbeats 8000000 in
set_option maxRecDepth 100000 in
theorem match_call (a0 a1 : ByteArray) (hs : a0.size < 1000000) (hs1 : a1.size < 1000000) (w : World) :
    Calls Try.prog 13 #[.string a0, .string a1] w fun e w' => e = .returned (.bool (match (if a0.size ≤ 100 then parse (a0.size + 1) (gL a0) else none) with | none => false | some l => stS l a1 a1.size l.length)) ∧ Below w.heap.size w w' := by
  have hsc := signs_call a0 hs
  cases hp : (if a0.size ≤ 100 then parse (a0.size + 1) (gL a0) else none) with
  | none =>
    rw [hp] at hsc
    clear hp
    go_enter Try.func13, Try.ntmps13
    go_wp2_with (go_at_call 22; (with_reducible refine (hsc _).mono ?_); rintro e w1 ⟨hb, rfl⟩)
    go_ret
    exact ⟨rfl, hb⟩
  | some l =>
    rw [hp] at hsc
    have hl : l.length < 1000000 := by
      split at hp
      · have := parse_len _ _ _ hp
        rw [gl_len] at this
        omega
      · simp at hp
    clear hp
    have hmk : ∀ W : World, (Instr.makeSlice 42 (.int .i64 ((l.length : Int) + 1)) (.int .i64 ((l.length : Int) + 1))).run Try.prog W = .ok (.slice (some ⟨W.heap.size, 0, none⟩) (l.length + 1) (l.length + 1)) (W.alloc (.cells (bA noS (l.length + 1)) 4)) := fun W => by
      have := print_make_int (P := Try.prog) 42 4 (.bool false) 1 Try.underlying42 (by kernel_rfl) rfl (by decide) ((l.length + 1 : Nat) : Int) (by omega) (by simp; omega) W
      rw [bA_made] at this
      simpa using this
    go_enter Try.func13, Try.ntmps13
    go_wp2_with (first | (go_at_call 22; (with_reducible refine (hsc _).mono ?_); rintro e w1 ⟨hb1, v, rfl, hR⟩; obtain ⟨A, cp, rfl, hS⟩ := SgVal.of_map hR) | ((with_reducible refine gate_dst (N := 21) rfl ?_); refine mkb_event rfl (N := 21) ?hd (m := l.length + 1) (cs := bA noS (l.length + 1)) (t := 4) ?hr ?_; (case hd => rfl); (case hr => first | (go_simp; done) | (go_simp; rfl)); intro ga hg w9 hbox hb; have HM0 := Aside0.mk (MW.make hR hS hg hbox hb); have hz0 := (blk_cell HM0.out.blk 0).trans (bA_get _ _ 0 (by omega)); have hzf := blk_frozen HM0.out.blk 0; have hzl : ((0 : Int) < ((l.length : Int) + 1)) = True := eq_true (by omega); have HM := Aside0.mk (MW.put HM0.out (by decide) 0); clear hR hS hg hbox hb hb1 HM0) | (go_at_call 23; (with_reducible refine (empty_call l A cp _ _ _ _ hl HM.out.sg HM.out.blk).mono ?_); rintro e w3 ⟨rfl, rfl⟩; have n0_ := Aside0.mk (MW.row HM.out (by decide) (emS l (addS noS 0) l.length)); clear HM; have HM := n0_; clear n0_))
    go_loopw [7, 29] (fun v7 v29 wr => ∃ i ga : Nat, v29 = .int .i64 i ∧ v7 = .slice (some ⟨ga, 0, none⟩) (l.length + 1) (l.length + 1) ∧ i ≤ a1.size ∧ Aside0 (MW 45 4 w wr A l ga (stS l a1 i))) (fun _ v29 _ => a1.size - (intOf v29).toNat)
    case atStart => exact ⟨0, ga, by first | rfl | go_num, by first | rfl | go_num, Nat.zero_le _, HM⟩
    case round =>
      clear HM
      obtain ⟨i, ga, rfl, rfl, hi, HM⟩ := hrel
      by_cases hi2 : i < a1.size
      · have d0 : ((i : Int) < (a1.size : Int)) = True := eq_true (by omega)
        have d1 : ∀ h : i < a1.size, ((a1[i]'h).toNat : Int) = bt a1 (i : Int) := fun h => bt_at a1 i h
        obtain ⟨cb, hcb⟩ : ∃ x : Nat, bt a1 (i : Int) = x := ⟨(bt a1 (i : Int)).toNat, by have := bt_range a1 (i : Int); omega⟩
        have hc256 : cb < 256 := by have := bt_range a1 (i : Int); omega
        rw [hcb] at d1
        go_wp2_with (first | ((with_reducible refine gate_dst (N := 35) rfl ?_); refine mkb_event rfl (N := 35) ?hd (m := l.length + 1) (cs := bA noS (l.length + 1)) (t := 4) ?hr ?_; (case hd => rfl); (case hr => first | (go_simp; done) | (go_simp; rfl)); intro gb hg w9 hbox hb; have HM2 := Aside0.mk (MW2.make HM.out hg hbox hb); clear HM hg hbox hb))
        go_loopw [38] (fun v38 wi => ∃ k : Nat, v38 = .int .i64 k ∧ k ≤ l.length ∧ Aside0 (MW2 45 4 w wi A l ga (stS l a1 i) gb (nxS l (stS l a1 i) cb k))) (fun v38 _ => l.length - (intOf v38).toNat)
        case atStart => exact ⟨0, rfl, Nat.zero_le _, HM2⟩
        case round =>
          clear HM2
          obtain ⟨k, rfl, hk, HM2⟩ := hrel
          by_cases hlt : k < l.length
          · have e0 : ((k : Int) < (l.length : Int)) = True := eq_true (by omega)
            have e1 : ((k : Int) < ((l.length : Int) + 1)) = True := eq_true (by omega)
            have e2 : (((k : Int) + 1) < ((l.length : Int) + 1)) = True := eq_true (by omega)
            obtain ⟨t, ht⟩ : ∃ t, l[k]? = some t := ⟨_, List.getElem?_eq_getElem hlt⟩
            have hmk_ : (l.map codeSg)[k]? = some (codeSg t) := by rw [List.getElem?_map, ht]; rfl
            obtain ⟨g, hg, hh⟩ := HM2.out.sg.has k _ hmk_
            have hgd : l.getD k .one = t := by rw [List.getD_eq_getElem?_getD, ht]; rfl
            have hkd := hh 0 (.int .i64 (kindT t)) rfl
            rw [Nat.add_zero] at hkd
            have HH := Aside0.mk hh
            clear hh hmk_ ht
            have hnx : nxS l (stS l a1 i) cb (k + 1) = (if (stS l a1 i k && tkB t cb) = true then (if starT t = true then addS (nxS l (stS l a1 i) cb k) k else addS (nxS l (stS l a1 i) cb k) (k + 1)) else nxS l (stS l a1 i) cb k) := by rw [nxS, hgd]
            clear hgd
            subst hg
            have hat := (blk_cell HM2.out.blk k).trans (bA_get _ _ k (by omega))
            have hs0 := (blk_cell HM2.out.blk2 k).trans (bA_get _ _ k (by omega))
            have hs1 := (blk_cell HM2.out.blk2 (k + 1)).trans (bA_get _ _ (k + 1) (by omega))
            have hf0 := blk_frozen HM2.out.blk2 k
            have hf1 := blk_frozen HM2.out.blk2 (k + 1)
            cases hb : stS l a1 i k with
            | false =>
              have HE := Aside0.mk (show nxS l (stS l a1 i) cb (k + 1) = nxS l (stS l a1 i) cb k by rw [hnx, hb]; rfl)
              rw [hb] at hat
              clear hnx hb
              go_wp2
              go_quiet (fail)
              go_wp2
              have n0_ := Aside0.mk (MW2.step HM2.out (pw_below_drewN (Below.refl _ _) nq))
              go_roundw
              case rel => exact ⟨k + 1, by go_num, by omega, ⟨by rw [HE.out]; exact n0_.out⟩⟩
              case measure => simp [intOf]; omega
            | true =>
              rw [hb] at hat
              have htk : ∀ q, Calls Try.prog 24 #[.pointer (some ⟨g, k * 259, none⟩), .int .u8 cb] (wr.drewN q) fun e w'' => e = .returned (.bool (tkB t cb)) ∧ ∃ m, w'' = wr.drewN m := fun q => Calls.quiet_of ((takes_call t g (k * 259) cb hc256 _ (HH.out.drewN q)).mono fun _ _ hx => ⟨hx.1, hx.2.out⟩)
              cases htb : tkB t cb with
              | false =>
                rw [htb] at htk
                have HE := Aside0.mk (show nxS l (stS l a1 i) cb (k + 1) = nxS l (stS l a1 i) cb k by rw [hnx, hb, htb]; rfl)
                clear hnx hb htb
                go_wp2
                go_quiet ((go_at_call 24; exact htk _))
                go_wp2
                have n0_ := Aside0.mk (MW2.step HM2.out (pw_below_drewN (Below.refl _ _) nq))
                go_roundw
                case rel => exact ⟨k + 1, by go_num, by omega, ⟨by rw [HE.out]; exact n0_.out⟩⟩
                case measure => simp [intOf]; omega
              | true =>
                rw [htb] at htk
                cases hst2 : starT t with
                | true =>
                  have HE := Aside0.mk (show nxS l (stS l a1 i) cb (k + 1) = addS (nxS l (stS l a1 i) cb k) k by rw [hnx, hb, htb, hst2]; rfl)
                  rcases kindT_star hst2 with hkk | hkk
                  all_goals
                    rw [hkk] at hkd
                    clear hkk hst2 hb htb hnx
                    go_wp2
                    go_quiet ((go_at_call 24; exact htk _))
                    go_wp2
                    have n0_ := Aside0.mk (MW2.step (MW2.put HM2.out k) (pw_below_drewN (Below.refl _ _) nq))
                    go_roundw
                    case rel => exact ⟨k + 1, by go_num, by omega, ⟨by rw [HE.out]; exact n0_.out⟩⟩
                    case measure => simp [intOf]; omega
                | false =>
                  have HE := Aside0.mk (show nxS l (stS l a1 i) cb (k + 1) = addS (nxS l (stS l a1 i) cb k) (k + 1) by rw [hnx, hb, htb, hst2]; rfl)
                  obtain ⟨q1, q2⟩ := kindT_no hst2
                  clear hst2 hb htb hnx
                  go_wp2
                  go_quiet ((go_at_call 24; exact htk _))
                  go_wp2
                  have n0_ := Aside0.mk (MW2.step (MW2.put HM2.out (k + 1)) (pw_below_drewN (Below.refl _ _) nq))
                  go_roundw
                  case rel => exact ⟨k + 1, by go_num, by omega, ⟨by rw [HE.out]; exact n0_.out⟩⟩
                  case measure => simp [intOf]; omega
          · obtain rfl : k = l.length := by omega
            have e0 : ((l.length : Int) < (l.length : Int)) = False := eq_false (by omega)
            have HM := Aside0.mk HM2.out.take
            clear HM2
            go_wp2_with (first | (go_at_call 23; (with_reducible refine (empty_call l A cp _ _ _ _ hl HM.out.sg HM.out.blk).mono ?_); rintro e w3 ⟨rfl, rfl⟩; have n0_ := Aside0.mk (MW.row HM.out (by decide) (emS l (nxS l (stS l a1 i) cb l.length) l.length)); clear HM; have HM := n0_; clear n0_))
            go_roundw
            case rel => exact ⟨i + 1, gb, by first | rfl | go_num, by first | rfl | go_num, by omega, ⟨by rw [stS_succ, hcb]; exact HM.out⟩⟩
            case measure => simp [intOf]; omega
      · obtain rfl : i = a1.size := by omega
        have d0 : ((a1.size : Int) < (a1.size : Int)) = False := eq_false (by omega)
        have e1 : ((l.length : Int) < ((l.length : Int) + 1)) = True := eq_true (by omega)
        have hat := (blk_cell HM.out.blk l.length).trans (bA_get _ _ l.length (by omega))
        go_wp2
        go_ret
        exact ⟨rfl, HM.out.below⟩
end Go.Proofs.Ytiigjnccoeadlaa.PA
