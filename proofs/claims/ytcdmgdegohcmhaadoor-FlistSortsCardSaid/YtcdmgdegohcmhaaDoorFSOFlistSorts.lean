/- FlistSorts: for any list and any bytes the law returns true and leaves its arguments as they were. The table of package crc is laid. -/
import Derived.Test.YtcdmgdegohcmhaaDoorFSOG5
import Derived.Test.YtcdmgdegohcmhaaDoorFSOG1
import Derived.Test.YtcdmgdegohcmhaaDoorFSOG2
import Derived.Test.YtcdmgdegohcmhaaDoorFSOG3
import Derived.ProofKit
import Derived.Test.YtcdmgdegohcmhaaDoorRows
import Derived.WalkKit
import Derived.Below
import Derived.Carry
import Derived.ChangeOld
import Derived.LaidMore
import Derived.Lay
import Derived.OpenShut
import Derived.SevenTiedAt
import Derived.ShutString
import Derived.SizedLaws
import Derived.Stop.Joined
import Derived.Test.YtcdmgdegohcmhaaDoorCards
import Derived.Test.YtcdmgdegohcmhaaDoorTie
namespace Go.Proofs.YtcdmgdegohcmhaaDoor.PA
open Go.RowKit Go.Proofs.YtcdmgdegohcmhaaDoorW.PrintWords Go.Proofs.YtcdmgdegohcmhaaDoorW.PrintLast Go.Proofs.YtcdmgdegohcmhaaDoorW.PrintMore
attribute [local go_sem] max2_int min2_int max_two min_two max_three min_three max_four min_four
set_option linter.unusedVariables false
set_option linter.unusedSimpArgs false
theorem sorts_l2 (L : List S35) (hl : light20 L) (hc : checkL20 L = 0) : ∀ (m i k : Nat), L.length + 1 - i = m → i ≤ L.length + 1 → m + 10000 ≤ k → remoralaw20_FlistSorts.l2 k L L (i : Int) = some true := by
 have hlen := hl.1
 intro m
 induction m with
 | zero =>
  intro i k hm hi hk
  obtain ⟨k, rfl⟩ : ∃ j, k = j + 1 := ⟨k - 1, by omega⟩
  rw [remoralaw20_FlistSorts.l2, if_neg (by omega), same_refl L (by omega) k (by omega), Option.bind_some, if_pos rfl, awake20 k (by omega)]
  rfl
 | succ m ih =>
  intro i k hm hi hk
  obtain ⟨k, rfl⟩ : ∃ j, k = j + 1 := ⟨k - 1, by omega⟩
  have ht : light20 (L.take i) := ⟨by rw [List.length_take]; omega, fun x hx => hl.2 x (List.mem_of_mem_take hx)⟩
  rw [remoralaw20_FlistSorts.l2, if_pos (by omega), if_pos (by omega), Int.toNat_natCast, flist_Check.f, if_pos ht, Option.bind_some, if_pos (check_take L hc i), wrapS35 i (by omega)]
  exact ih (i + 1) k (by omega) (by omega) (by omega)
theorem sorts_l1 (L : List S35) (hl : light20 L) (s : List S35) (hs : s.length ≤ 2500) (hz : ∀ a ∈ s, a.f0.size ≤ 1048576) (ho : SortedL ltS s) (he : checkL20 L = 0 → s = L) : ∀ (m i k : Nat), s.length - i = m → 1 ≤ i → m + 3020000 ≤ k → remoralaw20_FlistSorts.l1 k L s (i : Int) = some true := by
 have hlen := hl.1
 have hp := List.pairwise_iff_getElem.1 ho
 intro m
 induction m with
 | zero =>
  intro i k hm hi hk
  obtain ⟨k, rfl⟩ : ∃ j, k = j + 1 := ⟨k - 1, by omega⟩
  rw [remoralaw20_FlistSorts.l1, if_neg (by omega), flist_Check.f, if_pos hl, Option.bind_some]
  by_cases hc : checkL20 L = 0
  ·rw [if_pos hc, he hc]
   exact sorts_l2 L hl hc (L.length + 1) 0 k (by omega) (by omega) (by omega)
  ·rw [if_neg hc, awake20 k (by omega)]
   rfl
 | succ m ih =>
  intro i k hm hi hk
  obtain ⟨k, rfl⟩ : ∃ j, k = j + 1 := ⟨k - 1, by omega⟩
  have hlt : i < s.length := by omega
  have hw : wrap64 ((i : Int) - 1) = ((i - 1 : Nat) : Int) := by rw [wr64 _ (by omega) (by omega)]; omega
  have h1 := hz s[i] (List.getElem_mem hlt)
  have h2 := hz (s[i - 1]'(by omega)) (List.getElem_mem _)
  have h3 : decide (cmpL (splitL s[i].f0) (splitL (s[i - 1]'(by omega)).f0) < 0) = false := hp (i - 1) i (by omega) hlt (by omega)
  rw [remoralaw20_FlistSorts.l1, if_pos (by omega), if_pos (by omega), hw, if_pos (by omega), if_pos (by omega), rd35_get s i hlt, rd35_get s (i - 1) (by omega), rless_f _ _ (show sml _ by unfold sml; omega) (show sml _ by unfold sml; omega) k (by omega), Option.bind_some, h3, if_neg (by decide), wrapS35 i (by omega)]
  exact ih (i + 1) k (by omega) (by omega) (by omega)
theorem sorts_j1 (L : List S35) (hl : light20 L) (m : List S35) (hp : m.Perm L) (k : Nat) (hk : 3030000 ≤ k) : remoralaw20_FlistSorts.j1 k L m = some true := by
 have hlen := hl.1
 have hml := hp.length_eq
 obtain ⟨k, rfl⟩ : ∃ j, k = j + 1 := ⟨k - 1, by omega⟩
 have hso := sortS_ok m
 have hpl : (sortS m).Perm L := hso.1.1.trans hp
 have hsz : ∀ a ∈ m, a.f0.size ≤ 1048576 := fun a ha => hl.2 a ((hp.mem_iff).1 ha)
 rw [remoralaw20_FlistSorts.j1, flist_Sort.f, if_pos ⟨by omega, fun y hy => by have := hsz y hy; omega⟩, Option.bind_some, if_pos (by rw [hpl.length_eq])]
 exact sorts_l1 L hl (sortS m) (by rw [hpl.length_eq]; omega) (fun a ha => hl.2 a ((hpl.mem_iff).1 ha)) hso.2 (fun hc => sort_back L m (good_srt (good_check L hc)) hp) _ 1 k rfl (Nat.le_refl _) (by rw [hpl.length_eq]; omega)
theorem sorts_l0 (L : List S35) (hl : light20 L) (u : List Int) (hu : ∀ c ∈ u, 0 ≤ c ∧ c < 256) : ∀ (m i k : Nat) (x : List S35), L.length - i = m → i ≤ L.length → x.Perm L → m + 3040000 ≤ k → remoralaw20_FlistSorts.l0 k L u x (i : Int) = some true := by
 have hlen := hl.1
 intro m
 induction m with
 | zero =>
  intro i k x hm hi hp hk
  have hxl := hp.length_eq
  obtain ⟨k, rfl⟩ : ∃ j, k = j + 1 := ⟨k - 1, by omega⟩
  rw [remoralaw20_FlistSorts.l0]
  by_cases h1 : (i : Int) < (u.length : Int)
  ·rw [if_pos h1, if_neg (by omega)]
   exact sorts_j1 L hl x hp k (by omega)
  ·rw [if_neg h1]
   exact sorts_j1 L hl x hp k (by omega)
 | succ m ih =>
  intro i k x hm hi hp hk
  have hxl := hp.length_eq
  obtain ⟨k, rfl⟩ : ∃ j, k = j + 1 := ⟨k - 1, by omega⟩
  have hix : i < x.length := by omega
  rw [remoralaw20_FlistSorts.l0]
  by_cases h1 : (i : Int) < (u.length : Int)
  ·have hui : i < u.length := by omega
   have hc := hu u[i] (List.getElem_mem hui)
   obtain ⟨q, hq⟩ : ∃ q : Nat, Int.tmod (wrap64 (rd u (i : Int))) (x.length : Int) = (q : Int) ∧ q < x.length := by
    rw [rd_int u i hui, wr64 _ (by omega) (by omega), Int.tmod_eq_emod_of_nonneg hc.1]
    have h2 := Int.emod_nonneg u[i] (show (x.length : Int) ≠ 0 by omega)
    have h3 := Int.emod_lt_of_pos u[i] (show (0 : Int) < (x.length : Int) by omega)
    exact ⟨(u[i] % (x.length : Int)).toNat, by omega, by omega⟩
   rw [if_pos h1, if_pos (by omega), if_pos (by omega), if_neg (by omega), hq.1, if_pos (by omega), if_pos (by omega), rd35_get x q hq.2, rd35_get x i hix, Int.toNat_natCast, Int.toNat_natCast, wrapS35 i (by omega)]
   exact ih (i + 1) k _ (by omega) (by omega) ((set2_perm x i q hix hq.2).trans hp) (by omega)
  ·rw [if_neg h1]
   exact sorts_j1 L hl x hp k (by omega)
theorem flistSorts_f (L : List S35) (u : List Int) (hL : L.length ≤ 9223372036854775807) (hu : ∀ c ∈ u, 0 ≤ c ∧ c < 256) : ∃ k, remoralaw20_FlistSorts.f k L u = some true := by
 refine ⟨L.length + 1003010000, ?_⟩
 obtain ⟨k, hk⟩ : ∃ k, k = L.length + 1003010000 := ⟨_, rfl⟩
 rw [← hk]
 unfold remoralaw20_FlistSorts.f
 rw [small_f L hL k (by omega), Option.bind_some]
 by_cases h : smallB L = true
 ·have hl := light_small h
  have hlen := hl.1
  rw [if_pos h, Option.bind_some, if_pos (by simp; omega)]
  exact sorts_l0 L hl u hu L.length 0 k L (by omega) (by omega) (List.Perm.refl _) (by omega)
 ·rw [if_neg h, awake20 k (by omega)]
  rfl
end Go.Proofs.YtcdmgdegohcmhaaDoor.PA
namespace Go.Proofs.YtcdmgdegohcmhaaDoor.PA
open Go.RowKit Go.Proofs.YtcdmgdegohcmhaaDoorW.PrintWords Go.Proofs.YtcdmgdegohcmhaaDoorW.PrintLast Go.Proofs.YtcdmgdegohcmhaaDoorW.PrintMore
attribute [local go_sem] max2_int min2_int max_two min_two max_three min_three max_four min_four
set_option linter.unusedVariables false
set_option linter.unusedSimpArgs false
theorem bulk_pos {H : Type} : ∀ d : DataW H, 1 ≤ Rows.uptoBulk d
 | .lit (.string b) => by simp [Rows.uptoBulk]
 | .lit (.int _ _) => by simp [Rows.uptoBulk]
 | .lit (.bool _) => by simp [Rows.uptoBulk]
 | .lit (.float _ _) => by simp [Rows.uptoBulk]
 | .lit .nil => by simp [Rows.uptoBulk]
 | .nil => by simp [Rows.uptoBulk]
 | .ptr d => by simp [Rows.uptoBulk]
 | .slice _ _ => by simp [Rows.uptoBulk]
 | .agg _ => by simp [Rows.uptoBulk]
 | .iface _ _ => by simp [Rows.uptoBulk]
 | .map _ => by simp [Rows.uptoBulk]
 | .held _ => by simp [Rows.uptoBulk]
theorem bulk_len {H : Type} : ∀ l : List (DataW H), l.length ≤ Rows.uptoBulkAll l
 | [] => by simp [Rows.uptoBulkAll]
 | d :: r => by
  have h1 := bulk_pos d
  have h2 := bulk_len r
  simp only [List.length_cons, Rows.uptoBulkAll]
  omega
theorem bulk_mem {H : Type} : ∀ (l : List (DataW H)) (d : DataW H), d ∈ l → Rows.uptoBulk d ≤ Rows.uptoBulkAll l
 | [], d, h => by simp at h
 | e :: r, d, h => by
  simp only [Rows.uptoBulkAll]
  rcases List.mem_cons.1 h with rfl | h
  ·omega
  ·have := bulk_mem r d h
   omega
structure Opn {α : Type} (P : Program) (t : TypeId) (d : Kd α) (wf : Nat → α → Prop) : Prop where
 sz : d.sz = P.cellsOf t
 mono : ∀ n m a, n ≤ m → wf n a → wf m a
 op : ∀ {H : Type} (enc : TypeId × Value → H) (w : World) (base : Nat) (spare : Nat → Bool) (held : Bool) (fuel : Nat) (cs : List Value) (x : DataW H × List MemPlace), DataW.trod enc P w base spare held fuel t cs = some x → ∃ a, d.K w a cs ∧ wf (Rows.uptoBulk x.1) a
section
variable {P : Program} {t : TypeId}
theorem opn_int {k : IntKind} (ht : P.underlying t = some (.int k)) (hs : P.cellsOf t = 1) : Opn P t (Kd.int k) (fun _ a => (Lit.int k a).wf = true) where
 sz := hs.symm
 mono := fun _ _ _ _ h => h
 op := fun enc w base spare held fuel cs x h => by
  obtain ⟨n, rfl, rfl, hw⟩ := DataW.trod_int ht h
  exact ⟨n, rfl, hw⟩
theorem opn_string (ht : P.underlying t = some .string) (hs : P.cellsOf t = 1) : Opn P t Kd.string (fun n s => s.size < n ∧ s.size ≤ maxLen) where
 sz := hs.symm
 mono := fun _ _ _ h h' => ⟨Nat.lt_of_lt_of_le h'.1 h, h'.2⟩
 op := fun enc w base spare held fuel cs x h => by
  obtain ⟨s, rfl, rfl, hw⟩ := DataW.trod_string ht h
  refine ⟨s, rfl, ?_, hw⟩
  simp [Rows.uptoBulk]
theorem cells_get {w : World} {base : Nat} {a : Addr} {n : Nat} {cs : List Value} (h : w.cells? base a n = some cs) : cs.length = n ∧ ∀ i u, cs[i]? = some u → w.cell? (a.add i) = some u := by
 unfold World.cells? at h
 split at h
 ·refine ⟨by simpa using mapM_some_length h, fun i u hu => ?_⟩
  have hl := mapM_some_length h
  have hi : i < cs.length := (List.getElem?_eq_some_iff.1 hu).1
  have := mapM_some_get h i i (by rw [List.getElem?_range]; simp at hl; omega)
  rw [this, hu]
 ·cases h
theorem add_add (a : Addr) (i j : Nat) : (a.add i).add j = a.add (i + j) := by
 unfold Addr.add
 by_cases hi : i = 0 <;> by_cases hj : j = 0 <;> simp [hi, hj, Nat.add_assoc]
theorem opn_slice {α : Type} {e : TypeId} {d : Kd α} {wf : Nat → α → Prop} (ht : P.underlying t = some (.slice e)) (hs : P.cellsOf t = 1) (O : Opn P e d wf) :
  Opn P t (Kd.slice e d) (fun n xs => xs.length < n ∧ ∀ a ∈ xs, wf n a) where
 sz := hs.symm
 mono := fun n m a h h' => ⟨Nat.lt_of_lt_of_le h'.1 h, fun x hx => O.mono n m x h (h'.2 x hx)⟩
 op := fun enc w base spare held fuel cs x h => by
  rcases DataW.trod_slice ht h with ⟨rfl, rfl⟩ | ⟨a, len, cap, elems, rest, n, _, rfl, rfl, hb, hl, hm, hlen, hel, hsp, hns⟩
  ·exact ⟨[], ⟨none, 0, rfl, Nat.le_refl _, Kd.C_nil _ _⟩, by simp [Rows.uptoBulk], by simp⟩
  ·have each : ∀ i, i < len → ∃ y, elems[i]? = some y ∧ ∃ cs', w.cells? base (a.add (i * P.cellsOf e)) (P.cellsOf e) = some cs' ∧ ∃ v, d.K w v cs' ∧ wf (Rows.uptoBulk y.1) v := by
    intro i hi
    have h1 := hel i hi
    have h2 : elems[i]? = some (elems[i]'(by omega)) := List.getElem?_eq_getElem (by omega)
    rw [h2, Option.bind_eq_some_iff] at h1
    obtain ⟨cs', hc, ht'⟩ := h1
    obtain ⟨v, hv, hw⟩ := O.op enc w base spare held n cs' _ ht'
    exact ⟨_, h2, cs', hc, v, hv, hw⟩
   have ex : ∀ m, m ≤ len → ∃ xs : List α, xs.length = m ∧ ∀ i v, xs[i]? = some v → ∃ y, elems[i]? = some y ∧ ∃ cs', w.cells? base (a.add (i * P.cellsOf e)) (P.cellsOf e) = some cs' ∧ d.K w v cs' ∧ wf (Rows.uptoBulk y.1) v := by
    intro m
    induction m with
    | zero => exact fun _ => ⟨[], rfl, by simp⟩
    | succ m ih =>
     intro hm'
     obtain ⟨xs, hx, hg⟩ := ih (by omega)
     obtain ⟨y, hy, cs', hc, v, hv, hw⟩ := each m (by omega)
     refine ⟨xs ++ [v], by simp [hx], fun i u hu => ?_⟩
     by_cases hi : i < xs.length
     ·rw [List.getElem?_append_left hi] at hu
      exact hg i u hu
     ·rw [List.getElem?_append_right (by omega)] at hu
      have hi' : i = m := by
       have := (List.getElem?_eq_some_iff.1 hu).1
       simp at this
       omega
      subst hi'
      rw [hx, Nat.sub_self] at hu
      have : v = u := by simpa using hu
      subst this
      exact ⟨y, hy, cs', hc, hv, hw⟩
   obtain ⟨xs, hx, hg⟩ := ex len (Nat.le_refl _)
   have htot : Rows.uptoBulkAll (elems.map (·.1)) + 1 ≤ Rows.uptoBulk (DataW.slice (elems.map (·.1)) (rest.map (·.1))) := by
    simp only [Rows.uptoBulk]
    omega
   refine ⟨xs, ⟨some a, cap, by rw [hx], by omega, ⟨rfl, by unfold maxLen at hm; omega, fun _ => ⟨a, rfl, fun j p hp => ?_⟩⟩⟩, ?_, ?_⟩
   ·obtain ⟨y, hy, cs', hc, hk, hw⟩ := hg j p hp
    obtain ⟨g1, g2⟩ := cells_get hc
    refine ⟨cs', by rw [g1, O.sz], hk, fun i u hu => ?_⟩
    have := g2 i u hu
    rw [add_add] at this
    rw [O.sz]
    exact this
   ·have h1 := bulk_len (elems.map (·.1))
    simp only [List.length_map, hlen] at h1
    rw [hx]
    exact Nat.lt_of_lt_of_le (Nat.lt_succ_of_le h1) htot
   ·intro v hv
    obtain ⟨i, hi⟩ := List.getElem?_of_mem hv
    obtain ⟨y, hy, _, _, _, hw⟩ := hg i v hi
    refine O.mono _ _ _ ?_ hw
    have hmem : y.1 ∈ elems.map (·.1) := List.mem_map_of_mem (List.mem_of_getElem? hy)
    exact Nat.le_trans (bulk_mem _ _ hmem) (Nat.le_of_succ_le htot)
def OpnF {α : Type} (P : Program) (fs : List Field) (o : Nat) (d : Kd α) (wf : Nat → α → Prop) : Prop :=
 (∀ n m a, n ≤ m → wf n a → wf m a) ∧
 ∀ {H : Type} (enc : TypeId × Value → H) (w : World) (base : Nat) (spare : Nat → Bool) (held : Bool) (fuel : Nat) (cs : List Value) (ys : List (DataW H × List MemPlace)) (N : Nat),
  (∀ (i : Nat) (f : Field), fs[i]? = some f → ∃ y, ys[i]? = some y ∧ Rows.uptoBulk y.1 ≤ N ∧ DataW.trod enc P w base spare held fuel f.type ((cs.drop f.offset).take (P.cellsOf f.type)) = some y) →
  ∃ a, d.K w a ((cs.drop o).take d.sz) ∧ wf N a
theorem opnF_one {α : Type} {d : Kd α} {wf : Nat → α → Prop} {f : Field} {o : Nat} (ho : f.offset = o) (O : Opn P f.type d wf) : OpnF P [f] o d wf := by
 refine ⟨O.mono, fun enc w base spare held fuel cs ys N h => ?_⟩
 obtain ⟨y, hy, hN, ht⟩ := h 0 f rfl
 obtain ⟨a, ha, hw⟩ := O.op enc w base spare held fuel _ y ht
 refine ⟨a, ?_, O.mono _ _ _ hN hw⟩
 rw [O.sz, ← ho]
 exact ha
theorem opnF_cons {α β : Type} {d : Kd α} {d' : Kd β} {wf : Nat → α → Prop} {wf' : Nat → β → Prop} {f : Field} {fs : List Field} {o o' : Nat} (ho : f.offset = o) (O : Opn P f.type d wf) (he : o' = o + d.sz) (F : OpnF P fs o' d' wf') :
  OpnF P (f :: fs) o (Kd.pair d d') (fun n x => wf n x.1 ∧ wf' n x.2) := by
 refine ⟨fun n m a h h' => ⟨O.mono _ _ _ h h'.1, F.1 _ _ _ h h'.2⟩, fun enc w base spare held fuel cs ys N h => ?_⟩
 obtain ⟨y, hy, hN, ht⟩ := h 0 f rfl
 obtain ⟨a, ha, hw⟩ := O.op enc w base spare held fuel _ y ht
 obtain ⟨b, hb, hw'⟩ := F.2 enc w base spare held fuel cs (ys.drop 1) N (fun i g hg => by
  obtain ⟨z, hz, h1, h2⟩ := h (i + 1) g (by simpa using hg)
  refine ⟨z, ?_, h1, h2⟩
  rw [List.getElem?_drop, Nat.add_comm]
  exact hz)
 refine ⟨(a, b), ⟨(cs.drop o).take d.sz, (cs.drop o').take d'.sz, ?_, ?_, hb⟩, O.mono _ _ _ hN hw, hw'⟩
 ·show (cs.drop o).take (d.sz + d'.sz) = _
  rw [List.take_add, List.drop_drop, he]
 ·rw [O.sz, ← ho]
  exact ha
theorem opn_struct {α β : Type} {fs : Array Field} {d : Kd α} {wf : Nat → α → Prop} (f : β → α) (g : α → β) (hfg : ∀ a, f (g a) = a) (ht : P.underlying t = some (.struct fs)) (F : OpnF P fs.toList 0 d wf) (hs : d.sz = P.cellsOf t) :
  Opn P t (Kd.iso d f) (fun n x => wf n (f x)) where
 sz := hs
 mono := fun n m a h h' => F.1 n m (f a) h h'
 op := fun enc w base spare held fuel cs x h => by
  obtain ⟨xs, n, rfl, rfl, hl, hlen, hf⟩ := DataW.trod_struct ht h
  obtain ⟨a, ha, hw⟩ := F.2 enc w base spare held n cs xs (Rows.uptoBulk (DataW.agg (xs.map (·.1)))) (fun i q hq => by
   have h1 := hf i q (by simpa using hq)
   have hi : i < xs.length := by
    have := (List.getElem?_eq_some_iff.1 hq).1
    simp at this
    omega
   rw [List.getElem?_eq_getElem hi] at h1
   refine ⟨_, List.getElem?_eq_getElem hi, ?_, h1⟩
   have hmem : (xs[i]).1 ∈ xs.map (·.1) := List.mem_map_of_mem (List.getElem_mem hi)
   have := bulk_mem _ _ hmem
   simp only [Rows.uptoBulk]
   omega)
  refine ⟨g a, ?_, by rw [hfg]; exact hw⟩
  show d.K w (f (g a)) cs
  rw [hfg]
  rw [List.drop_zero, hs, ← hl, List.take_length] at ha
  exact ha
end
end Go.Proofs.YtcdmgdegohcmhaaDoor.PA
namespace Go.Proofs.YtcdmgdegohcmhaaDoor.PA
open Go.RowKit Go.Proofs.YtcdmgdegohcmhaaDoorW.PrintWords Go.Proofs.YtcdmgdegohcmhaaDoorW.PrintLast Go.Proofs.YtcdmgdegohcmhaaDoorW.PrintMore
attribute [local go_sem] max2_int min2_int max_two min_two max_three min_three max_four min_four
set_option linter.unusedVariables false
set_option linter.unusedSimpArgs false
theorem tabW_laid {W : World} (h : laidMetH Tryd.prog [("remora/crc.table", Go.Proofs.YtcdmgdegohcmhaaDoor.Rows.laid_remora_crc_table)] W) : TabW W := by
 rw [MakeChecks.laidMetH_plain _ _ _ (by kernel_rfl)] at h
 obtain ⟨ps, ⟨g, t, cs, fuel, p, q, hg, ht, hv, hd, _, _⟩, _, _⟩ := h
 obtain rfl := Option.some.inj ((show Tryd.prog.globalNamed "remora/crc.table" = some 1 by kernel_rfl).symm.trans hg)
 obtain rfl := Option.some.inj ((show (Tryd.prog.globals[1]?).map (·.type) = some 103 by kernel_rfl).symm.trans ht)
 obtain ⟨xs, m, _, ex, _, hl, hel⟩ := DataW.trod_array Tryd.underlying103 hd
 have c5 : Tryd.prog.cellsOf 57 = 1 := by kernel_rfl
 intro r hr
 have hE := hel r hr
 rw [c5, Nat.mul_one, List.getElem?_eq_getElem (by omega)] at hE
 obtain ⟨z, e1, e2, _⟩ := DataW.trod_int Tryd.underlying57 hE
 have hlen : tabN.length = 16 := by kernel_rfl
 have e3 : (xs.map (·.1)) = tabN.map fun n => .lit (.int .u32 n) := (DataW.agg.inj (Prod.mk.inj ex).1).symm
 have e4 : (xs.map (·.1))[r]? = (tabN.map fun n => (DataW.lit (.int .u32 n) : DataW Unit))[r]? := by rw [e3]
 rw [List.getElem?_map, List.getElem?_map, List.getElem?_eq_getElem (by omega : r < xs.length), List.getElem?_eq_getElem (by omega : r < tabN.length), e2] at e4
 have hz : z = tabN.getD r 0 := by
  simp only [Option.map_some, Option.some.injEq, DataW.lit.injEq, Lit.int.injEq, true_and] at e4
  rw [e4, List.getD, List.getElem?_eq_getElem (by omega : r < tabN.length)]; rfl
 rw [World.var?_cell hg hv r, ← hz]
 have : cs.toList[r]? = some (.int .u32 z) := by
  have h0 : ((cs.toList.drop r).take 1)[0]? = some (.int .u32 z) := by rw [e1]; rfl
  simpa using h0
 simpa using this
end Go.Proofs.YtcdmgdegohcmhaaDoor.PA
namespace Go.Proofs.YtcdmgdegohcmhaaDoor.PA
open Go.RowKit Go.Proofs.YtcdmgdegohcmhaaDoorW.PrintWords Go.Proofs.YtcdmgdegohcmhaaDoorW.PrintLast Go.Proofs.YtcdmgdegohcmhaaDoorW.PrintMore
attribute [local go_sem] max2_int min2_int max_two min_two max_three min_three max_four min_four
set_option linter.unusedVariables false
set_option linter.unusedSimpArgs false
def wf33 (n : Nat) (x : S33) : Prop := ((Lit.int .i64 x.f0).wf = true) ∧ ((Lit.int .i64 x.f1).wf = true) ∧ ((Lit.int .i64 x.f2).wf = true) ∧ ((Lit.int .i64 x.f3).wf = true) ∧ ((Lit.int .i64 x.f4).wf = true)
theorem opn33 : Opn Tryd.prog 33 k33 wf33 := opn_struct (fun x : S33 => (x.f0, x.f1, x.f2, x.f3, x.f4)) (fun a => (⟨a.1, a.2.1, a.2.2.1, a.2.2.2.1, a.2.2.2.2⟩ : S33)) (fun _ => rfl) Tryd.underlying33 (opnF_cons rfl (opn_int Tryd.underlying3 (by kernel_rfl)) rfl (opnF_cons rfl (opn_int Tryd.underlying3 (by kernel_rfl)) rfl (opnF_cons rfl (opn_int Tryd.underlying3 (by kernel_rfl)) rfl (opnF_cons rfl (opn_int Tryd.underlying3 (by kernel_rfl)) rfl (opnF_one rfl (opn_int Tryd.underlying3 (by kernel_rfl))))))) (by kernel_rfl)
def wf35 (n : Nat) (x : S35) : Prop := (x.f0.size < n ∧ x.f0.size ≤ maxLen) ∧ ((Lit.int .i64 x.f1).wf = true) ∧ ((Lit.int .i64 x.f2).wf = true) ∧ (wf33 n x.f3) ∧ (x.f4.size < n ∧ x.f4.size ≤ maxLen) ∧ (x.f5.size < n ∧ x.f5.size ≤ maxLen) ∧ ((Lit.int .i64 x.f6).wf = true)
theorem opn35 : Opn Tryd.prog 35 k35 wf35 := opn_struct (fun x : S35 => (x.f0, x.f1, x.f2, x.f3, x.f4, x.f5, x.f6)) (fun a => (⟨a.1, a.2.1, a.2.2.1, a.2.2.2.1, a.2.2.2.2.1, a.2.2.2.2.2.1, a.2.2.2.2.2.2⟩ : S35)) (fun _ => rfl) Tryd.underlying35 (opnF_cons rfl (opn_string Tryd.underlying9 (by kernel_rfl)) rfl (opnF_cons rfl (opn_int Tryd.underlying3 (by kernel_rfl)) rfl (opnF_cons rfl (opn_int Tryd.underlying3 (by kernel_rfl)) rfl (opnF_cons rfl opn33 rfl (opnF_cons rfl (opn_string Tryd.underlying9 (by kernel_rfl)) rfl (opnF_cons rfl (opn_string Tryd.underlying9 (by kernel_rfl)) rfl (opnF_one rfl (opn_int Tryd.underlying3 (by kernel_rfl))))))))) (by kernel_rfl)
theorem flistSorts_law (w : World) (hT : TabW w) (A0 : Option Addr) (c0 : Nat) (x0 : List S35) (hC : Kd.C k35 w A0 x0.length x0) (hL : x0.length ≤ c0) (hw : ∃ n, x0.length < n ∧ ∀ a ∈ x0, wf35 n a) (A1 : Option Addr) (c1 : Nat) (x1 : List Int) (hC1 : Kd.C (Kd.int .u8) w A1 x1.length x1) (hL1 : x1.length ≤ c1) (hw1 : ∃ n, x1.length < n ∧ ∀ a ∈ x1, (Lit.int .u8 a).wf = true) :
  Calls Tryd.prog 8 #[.slice A0 x0.length c0, .slice A1 x1.length c1] w fun e w' => e = .returned (.bool true) ∧ Below w.heap.size w w' := by
 obtain ⟨n1, _, hu⟩ := hw1
 obtain ⟨k, hk⟩ := flistSorts_f x0 x1 hC.2.1 (fun c hc => by
  have := hu c hc
  have h0 : IntKind.min .u8 = 0 := rfl
  have h1 : IntKind.max .u8 = 255 := rfl
  simp only [Lit.wf, Bool.and_eq_true, decide_eq_true_eq, h0, h1] at this
  omega)
 exact remoralaw20_FlistSorts.calls k A0 c0 x0 A1 c1 x1 true w hC hL hC1 hL1 hk hT
end Go.Proofs.YtcdmgdegohcmhaaDoor.PA
namespace Go.Proofs.YtcdmgdegohcmhaaDoor.flistSortsRow
open Go.ChangeShapes Go.WideShapes Go.ChangeAt Go.RowKit Go.Proofs.YtcdmgdegohcmhaaDoor.PA Go.Proofs.YtcdmgdegohcmhaaDoorW.PrintWords Go.Proofs.YtcdmgdegohcmhaaDoorW.PrintLast Go.Proofs.YtcdmgdegohcmhaaDoorW.PrintMore
open Go.ChangeMaps (open_string shut_string)
theorem own : ownKnob Tryd.prog.godebug = none := by kernel_rfl
theorem laidOut : laidOutB Tryd.prog = true := by kernel_rfl
set_option linter.unusedSimpArgs false in
set_option maxHeartbeats 1000000 in
set_option maxRecDepth 100000 in
theorem lifted (os : Os) (started : os.Started) (H : Type) (enc : TypeId × Value → H) :
  ReturnsInHanded {} Tryd.checked os 8 .any (fun w args => (Rows.flistSortsSpec.pre enc Tryd.prog Tryd.f8 Rows.flistSortsRow.domain false w args ∧ laidMetH Tryd.prog Rows.flistSortsRow.laid w) ∧ sizedMet enc Tryd.prog Tryd.f8 (OpenSpec.ofChange Rows.flistSortsSpec) false w args)
   (Rows.flistSortsSpec.post enc Tryd.prog Tryd.f8 false true false false) := by
 refine returnsInHanded_of_change_and (C := Tryd.checked) (X := fun w _ => laidMetH Tryd.prog Rows.flistSortsRow.laid w) (fun _ _ _ hh h => h.of_heap hh) own started (by kernel_rfl) Tryd.func8
  (ChangeSpec.witness_shaped (enc := enc) (C := Tryd.checked) (os := os) (X := fun w _ => laidMetH Tryd.prog Rows.flistSortsRow.laid w) false (World.laidAll Tryd.prog os Rows.flistSortsRow.laid) #[.slice none 0 0, .slice none 0 0] 8 (World.laidAll_os _ _ _)
   (World.shaped_of_ZipB (by kernel_rfl) (by kernel_rfl)) (by kernel_rfl) (by kernel_rfl) (by kernel_rfl)
   (by rw [MakeChecks.laidMetH_plain _ _ _ (by kernel_rfl)]; exact laidMet_laidAll _ (by kernel_rfl) (by kernel_rfl))) ?_
 intro W base args ds gs before hval0 hW hcnd _ hL_ _
 have hval : ∀ (j : Nat) t v, Tryd.f8.params[j]? = some t → args[j]? = some v → Value.okWide Tryd.prog W .any base t v := hval0
 have hW' := hW
 obtain ⟨p, q, hA0, hV, rfl, hfz, hnd⟩ := hW
 have hA : DataW.TrodAll enc Tryd.prog W 0 (fun _ => true) true Tryd.f8.params.toList args.toList ds p := hA0
 rw [Tryd.params8] at hA hval
 obtain ⟨v0, vs0, d0, ds0, p0, q0, hargs, rfl, rfl, h0, r0⟩ := trodAll_cons hA
 obtain ⟨v1, vs1, d1, ds1, p1, q1, rfl, rfl, rfl, h1, r1⟩ := trodAll_cons r0
 obtain ⟨rfl, rfl, rfl⟩ := trodAll_nil r1
 obtain rfl : args = #[v0, v1] := by cases args; simp_all
 obtain ⟨rfl, rfl⟩ := trodVars_none hV
 obtain ⟨A0, l0, c0, rfl⟩ := okWide_slice Tryd.underlying22 (hval 0 22 v0 rfl rfl)
 have k0 := h0
 have lt0 : ∀ x ∈ p0, x.block < W.heap.size := by obtain ⟨m, hm⟩ := k0; exact DataW.trod_lt m _ _ _ hm
 obtain ⟨fu0, hf0⟩ := h0
 obtain ⟨x0, hk0, hw0⟩ := (show Opn Tryd.prog 22 (Kd.slice 35 k35) (fun n x => x.length < n ∧ ∀ a ∈ x, wf35 n a) from (opn_slice Tryd.underlying22 (by kernel_rfl) opn35)).op enc W 0 _ true fu0 _ _ hf0
 obtain ⟨A_, c_, e0, hL0, hC0⟩ := hk0
 simp only [Value.cells, Array.toList, List.cons.injEq, Value.slice.injEq, and_true] at e0
 obtain ⟨rfl, rfl, rfl⟩ := e0
 obtain ⟨A1, l1, c1, rfl⟩ := okWide_slice Tryd.underlying27 (hval 1 27 v1 rfl rfl)
 have k1 := h1
 have lt1 : ∀ x ∈ p1, x.block < W.heap.size := by obtain ⟨m, hm⟩ := k1; exact DataW.trod_lt m _ _ _ hm
 obtain ⟨fu1, hf1⟩ := h1
 obtain ⟨x1, hk1, hw1⟩ := (show Opn Tryd.prog 27 (Kd.slice 5 (Kd.int .u8)) (fun n x => x.length < n ∧ ∀ a ∈ x, (Lit.int .u8 a).wf = true) from (opn_slice Tryd.underlying27 (by kernel_rfl) (opn_int Tryd.underlying5 (by kernel_rfl)))).op enc W 0 _ true fu1 _ _ hf1
 obtain ⟨A_, c_, e1, hL1, hC1⟩ := hk1
 simp only [Value.cells, Array.toList, List.cons.injEq, Value.slice.injEq, and_true] at e1
 obtain ⟨rfl, rfl, rfl⟩ := e1
 refine (flistSorts_law W (tabW_laid hL_) A0 c0 x0 hC0 hL0 ⟨Rows.uptoBulk d0, hw0⟩ A1 c1 x1 hC1 hL1 ⟨Rows.uptoBulk d1, hw1⟩).mono fun e W' ⟨he, bel⟩ => ?_
 subst he
 exact ⟨_, rfl, _, _, _, [], _, [], hW', trodAll_mk1 (shut_bool Tryd.underlying4 _), (trodAll_cons_mk (Below.trod laidOut (by kernel_rfl) (of_decide_eq_true (by kernel_rfl)) k0 bel lt0) (trodAll_cons_mk (Below.trod laidOut (by kernel_rfl) (of_decide_eq_true (by kernel_rfl)) k1 bel lt1) trodAll_mk0)), rfl, bel.frame _, fun h => by cases h⟩
theorem over : Rows.flistSortsRow.holds Tryd.pinned (OpenSpec.ofChange Rows.flistSortsSpec) :=
 OpenClaim.holds_of_wide 8 Tryd.f8 rfl rfl rfl rfl rfl rfl rfl ⟨rfl, rfl, rfl, rfl, rfl⟩ rfl rfl rfl rfl rfl (by kernel_rfl) Tryd.func8 (by kernel_rfl)
  (of_decide_eq_true (by kernel_rfl)) (by unfold Func.isWrapper; first | (rw [if_pos (by decide +kernel)]; kernel_rfl) | (rw [if_neg (by decide +kernel)]; exact ⟨rfl, rfl⟩))
  (fun os started H enc _ => lifted os started H enc)
theorem proved : Rows.FlistSortsSaid := over
theorem card : Rows.FlistSortsCardSaid :=
 Claim7.holds_tied_plain_at .later [] _ _ _ _ proved (fun _ h => by cases h) (by kernel_rfl) (fun _ h => by cases h) flistSorts_row_tie rfl ⟨rfl, rfl⟩ (by kernel_rfl) rfl
  (fun f fn hf hfn => by
   obtain rfl : f = 8 := Option.some.inj ((show Tryd.prog.funcNamed "remora/remoralaw20.FlistSorts" = some 8 by kernel_rfl).symm.trans hf) |>.symm
   obtain rfl : fn = Tryd.f8 := (Option.some.inj (Tryd.func8.symm.trans hfn)).symm
   exact ⟨by kernel_rfl, fun j t ht => by
    rw [Tryd.params8] at ht
    have hm : t ∈ [22, 27] := by simpa using Array.mem_of_getElem? ht
    have hall : ([22, 27].all fun u => !Tryd.prog.wantsStandIn u) = true := by kernel_rfl
    exact (show Tryd.prog.wantsStandIn t = false by simpa using List.all_eq_true.1 hall t hm)⟩)
  (by kernel_rfl)
#print axioms card
end Go.Proofs.YtcdmgdegohcmhaaDoor.flistSortsRow
namespace Go.Proofs.YtcdmgdegohcmhaaDoor
theorem flistSorts_holds : Rows.FlistSortsCardSaid := flistSortsRow.card
end Go.Proofs.YtcdmgdegohcmhaaDoor
namespace Go.Proofs.YtcdmgdegohcmhaaDoor.PA
end Go.Proofs.YtcdmgdegohcmhaaDoor.PA
