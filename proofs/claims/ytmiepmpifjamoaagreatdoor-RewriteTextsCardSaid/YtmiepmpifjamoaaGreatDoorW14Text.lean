/-
  RewriteTexts: plan.Text at one step. Own text.
-/
import Derived.Test.YtmiepmpifjamoaaGreatDoorW14Shelf
import Derived.WalkKit
import Derived.Deep.QuietTactic
import Derived.Deep.RegionHeld3
import Derived.WalkSpells
import Derived.StillTactics
import Derived.OwnWalk
import Derived.Deep.CutRange
import Derived.Deep.CutBlock
import Derived.BigQuiet
import Derived.Lib.AppendIntMem
import Derived.Lib.ItoaLen
set_option linter.all false
namespace Go.Proofs.Wk
open Go.RowKit
set_option maxRecDepth 100000
def R64 (n : Int) : Prop := -9223372036854775808 ≤ n ∧ n ≤ 9223372036854775807
def itoaB (n : Int) : ByteArray := ⟨(Lib.itoa n).toArray⟩
theorem itoa_any (n : Int) (h0 : -9223372036854775808 ≤ n) (h1 : n ≤ 9223372036854775807) (w : World) (htab : Lib.TabIs Tryz.prog w "internal/strconv.uint64pow10" .u64 Lib.pow10Tab) :
    Calls Tryz.prog 14 #[.int .i64 n] w fun e w' => e = .returned (.string (itoaB n)) ∧ Below w.heap.size w w' := by
  refine (Tryz.strconv_Itoa n h0 h1 w htab).mono ?_
  rintro e w' ⟨rfl, k, os, rfl⟩
  exact ⟨rfl, Lib.below_grow _ w (Nat.le_refl _) k os⟩
theorem bcell {B : Nat} {W w1 : World} (hb : Below B W w1) : (∀ b o, b < B → w1.cell? ⟨b, o, none⟩ = W.cell? ⟨b, o, none⟩) ∧ (∀ b o, b < B → w1.frozen? ⟨b, o, none⟩ = W.frozen? ⟨b, o, none⟩) :=
  ⟨fun b o h => hb.cell (p := ⟨b, o, none⟩) h, fun b o h => hb.frozen (p := ⟨b, o, none⟩) h⟩
theorem sOf {V : World} {N : Nat} {p q : Int} (hlt : N < V.heap.size) (c1 : V.cell? ⟨N, 1, none⟩ = some (.int .i64 p)) (c2 : V.cell? ⟨N, 2, none⟩ = some (.int .i64 q)) {W : World} (h : Below V.heap.size V W) :
    W.cell? ⟨N, 1, none⟩ = some (.int .i64 p) ∧ W.cell? ⟨N, 2, none⟩ = some (.int .i64 q) ∧ Below V.heap.size V W := ⟨((bcell h).1 N 1 hlt).trans c1, ((bcell h).1 N 2 hlt).trans c2, h⟩
theorem below_call {V W W' : World} (h : Below V.heap.size V W) (hb : Below W.heap.size W W') : Below V.heap.size V W' := h.trans (hb.mono h.size)
theorem below_alloc {V W : World} (h : Below V.heap.size V W) (o : Obj) : Below V.heap.size V (W.alloc o) := h.alloc h.size o
/-- a slice of texts -/
def LS (W : World) (v : Value) (xs : List ByteArray) : Prop := ∃ N c, v = .slice (some ⟨N, 0, none⟩) xs.length c ∧ xs.length ≤ c ∧ N < W.heap.size ∧ ∀ (j : Nat) x, xs[j]? = some x → W.cell? ⟨N, 0 + j, none⟩ = some (.string x)
def words (k p q : Int) (bk : Bool) (lb ky : ByteArray) (cd : Int) : List ByteArray :=
  bif k == 0 then [⟨#[97, 108, 108]⟩, itoaB p, itoaB q] else bif k == 1 then [⟨#[108, 97, 98, 101, 108]⟩, itoaB p, itoaB q, lb] else bif k == 2 then [⟨#[115, 101, 101, 107]⟩, itoaB p, itoaB q, lb, ky]
  else bif k == 3 then [⟨#[98, 111, 117, 110, 100]⟩, itoaB p, itoaB q] else bif k == 4 then (bif bk then [⟨#[114, 101, 108]⟩, itoaB p, itoaB q, ⟨#[98, 97, 99, 107]⟩] else [⟨#[114, 101, 108]⟩, itoaB p, itoaB q])
  else bif k == 5 then [⟨#[119, 104, 101, 114, 101]⟩, itoaB cd] else [⟨#[63]⟩, itoaB p, itoaB q]
theorem LS.of {W : World} {N n c : Nat} {xs : List ByteArray} {cs : Array Value} {t : TypeId} {fr : Nat × Nat} (hb : W.heap[N]? = some (.cells cs t fr)) (hc : xs.length ≤ c) (hn : n = xs.length) (hx : ∃ rest, cs.toList = xs.map Value.string ++ rest) : LS W (.slice (some ⟨N, 0, none⟩) n c) xs := by
  subst hn
  obtain ⟨rest, hr⟩ := hx
  refine ⟨N, c, rfl, hc, (Array.getElem?_eq_some_iff.1 hb).1, fun j x hj => ?_⟩
  have hlt : j < xs.length := (List.getElem?_eq_some_iff.1 hj).1
  have this : cs[j]? = some (.string x) := by
    rw [← Array.getElem?_toList, hr, List.getElem?_append_left (by simpa using hlt), List.getElem?_map, hj]; rfl
  simp only [World.cell?, Nat.zero_add, hb, Option.bind_some]
  simpa using this
theorem alloc3 (W : World) (a b c : Obj) : (((W.alloc a).alloc b).alloc c).drew.heap[W.heap.size + 1 + 1]? = some c := by
  have h := heap_alloc_new ((W.alloc a).alloc b) c
  have e : ((W.alloc a).alloc b).heap.size = W.heap.size + 1 + 1 := by simp
  rw [e] at h
  exact h
theorem bld_fresh {T e : TypeId} {B b : Nat} {w : World} (hB : B ≤ b) (hb : w.heap[b]? = some (.cells #[.pointer none, .slice none 0 0] T (0, 0))) : Lib.IsBuilder T e B b [] w :=
  .inl ⟨hB, _, hb, World.ownsRow_nil _ _ _ _, by simp [Value.ownBlock]⟩
theorem alloc_mid (w : World) (a b c : Obj) : (((w.alloc a).alloc b).alloc c).heap[w.heap.size + 1]? = some b := by
  have h := heap_alloc_new (w.alloc a) b
  have e : (w.alloc a).heap.size = w.heap.size + 1 := by simp
  rw [e] at h
  rw [Lib.alloc_old _ _ _ (by simp)]
  exact h
theorem joinT {xs : List ByteArray} (h : xs.length ≤ 5 ∧ (Lib.join (xs.map (·.data.toList)) [32]).length ≤ 100000) :
    xs.length ≤ 140737488355328 ∧ (Lib.join (xs.map (·.data.toList)) (ByteArray.mk #[32]).data.toList).length ≤ 140737488355328 ∧
    ([] : List Value).length + ((ByteArray.mk (Lib.join (xs.map (·.data.toList)) (ByteArray.mk #[32]).data.toList).toArray) ++ ByteArray.mk #[10]).size ≤ 140737488355328 := by
  refine ⟨by omega, ?_, ?_⟩
  · show (Lib.join (xs.map (·.data.toList)) [32]).length ≤ _
    omega
  · show 0 + ((ByteArray.mk (Lib.join (xs.map (·.data.toList)) [32]).toArray) ++ ByteArray.mk #[10]).size ≤ _
    rw [ByteArray.size_append]
    show 0 + ((Lib.join (xs.map (·.data.toList)) [32]).toArray.size + 1) ≤ _
    rw [List.size_toArray]; omega
theorem bytes_cells {T e : TypeId} {B b : Nat} {p : Value} {l : List UInt8} {w : World} (h : Lib.BuilderAt T e B b p ([] ++ Lib.strCells ((ByteArray.mk l.toArray) ++ ByteArray.mk #[10])) w) : Lib.BuilderAt T e B b p (Lib.byteCells (l ++ [10])) w := by
  have e1 : ([] : List Value) ++ Lib.strCells ((ByteArray.mk l.toArray) ++ ByteArray.mk #[10]) = Lib.byteCells (l ++ [10]) := by
    simp [Lib.strCells, Lib.byteCells]
  rw [← e1]; exact h
abbrev S25 (k p q : Int) (bk : Bool) (lb ky : ByteArray) (cd : Int) : Obj := .cells #[.int .i64 k, .int .i64 p, .int .i64 q, .bool bk, .string lb, .string ky, .int .i64 cd] 25
theorem text_below {w wc W4 W7 W8 : World} {o1 o2 o3 : Obj} (h : Below (((w.alloc o1).alloc o2).alloc o3).heap.size (((w.alloc o1).alloc o2).alloc o3) wc) (h4 : Below wc.heap.size wc W4) (h7 : Below (w.heap.size + 1) W4 W7) (h8 : Below (w.heap.size + 1) W7 W8) : Below w.heap.size w W8 := by
  have h0 : Below w.heap.size w (((w.alloc o1).alloc o2).alloc o3) := below_alloc (below_alloc (below_alloc (Below.refl _ _) _) _) _
  have h1 := below_call (below_call h0 h) h4
  exact (h1.trans (h7.mono (by omega))).trans (h8.mono (by omega))
abbrev W5 (k p q : Int) (bk : Bool) (lb ky : ByteArray) (cd : Int) (w : World) : World := ((w.alloc (S25 k p q bk lb ky cd)).alloc (.cells #[.pointer none, .slice none 0 0] 60)).alloc (S25 k p q bk lb ky cd)
set_option maxHeartbeats 2000000 in
theorem planText_any (k p q : Int) (bk : Bool) (lb ky : ByteArray) (cd : Int) (w : World) (hX : (words k p q bk lb ky cd).length ≤ 5 ∧ (Lib.join ((words k p q bk lb ky cd).map (·.data.toList)) [32]).length ≤ 100000) (rp : R64 p) (rq : R64 q) (rc : R64 cd) (hI : ∀ n W, R64 n → Below (W5 k p q bk lb ky cd w).heap.size (W5 k p q bk lb ky cd w) W → Calls Tryz.prog 14 #[.int .i64 n] W fun e w' => e = .returned (.string (itoaB n)) ∧ Below W.heap.size W w') :
    Calls Tryz.prog 6 #[.slice (some ⟨w.heap.size, 0, none⟩) 1 1] (w.alloc (S25 k p q bk lb ky cd)) fun e w' => e = .returned (.string ⟨(Lib.join ((words k p q bk lb ky cd).map (fun x : ByteArray => x.data.toList)) [32] ++ [10]).toArray⟩) ∧ Below w.heap.size w w' := by
  have HX := Lib.hid hX
  have HI := Lib.hid hI
  clear hX
  clear hI
  go_enter Tryz.func6, Tryz.ntmps6
  go_wp2
  refine wp_loop_rounds 2 ?_
  rw [rounds_succ]
  go_upto_region 5 with (fail)
  go_cut [5, 6, 9] from 9 to 69 (fun s5 s6 s9 wx => ∃ W2, wx = W2.alloc (.cells #[.string ⟨#[63]⟩, .string (itoaB p), .string (itoaB q)] 9) ∧ s6 = .slice (some ⟨W2.heap.size, 0, none⟩) 3 3 ∧ Below (W5 k p q bk lb ky cd w).heap.size (W5 k p q bk lb ky cd w) W2 ∧ s9 = .int .i64 0 ∧ s5 = .pointer (some ⟨w.heap.size + 2, 0, none⟩))
  case first =>
    have c1 : (W5 k p q bk lb ky cd w).cell? ⟨w.heap.size + 2, 1, none⟩ = some (.int .i64 p) := by go_simp
    have c2 : (W5 k p q bk lb ky cd w).cell? ⟨w.heap.size + 2, 2, none⟩ = some (.int .i64 q) := by go_simp
    have hB0 : Below (W5 k p q bk lb ky cd w).heap.size (W5 k p q bk lb ky cd w) (W5 k p q bk lb ky cd w) := Below.refl _ _
    have hlt : w.heap.size + 2 < (W5 k p q bk lb ky cd w).heap.size := by simp
    change Code.wp _ _ _ _ (W5 k p q bk lb ky cd w)
    generalize hV : W5 k p q bk lb ky cd w = V5 at c1 c2 hB0 hlt HI ⊢
    generalize hN : w.heap.size + 2 = N at c1 c2 hlt ⊢
    replace hV := Lib.hid hV
    replace hN := Lib.hid hN
    go_region_held3 (fun w' => w'.cell? ⟨N, 1, none⟩ = some (.int .i64 p) ∧ w'.cell? ⟨N, 2, none⟩ = some (.int .i64 q) ∧ Below V5.heap.size V5 w')
      (((refine sOf hlt c1 c2 ?_); (first | exact hB0.drew | (go_split_ands; first | assumption | exact below_call (by assumption) hb | exact below_alloc (by assumption) _))))
      (first
        | (go_at_call 14; refine (HI.out _ _ ?_ ?_).mono ?_; assumption; (first | exact hB0.drew | (go_split_ands; first | assumption | exact below_call (by assumption) hb)); rintro e w' ⟨rfl, hb⟩))
    have hBw := below_call (below_call hB0.drew ‹Below V5.drew.heap.size V5.drew _›) hb
    go_wp2
    go_meet
    have hV' := hV.out
    have hN' := hN.out
    subst hV' hN'
    exact ⟨_, rfl, rfl, hBw, rfl, rfl⟩
  case rest =>
    obtain ⟨W2, rfl, rfl, HB2, rfl, rfl⟩ := hcut
    obtain ⟨hc2, hf2⟩ := bcell HB2
    have e1 : W2.cell? ⟨w.heap.size + 2, 0, none⟩ = some (.int .i64 k) := by rw [hc2 _ _ (by simp)]; go_simp
    have e2 : W2.cell? ⟨w.heap.size + 2, 4, none⟩ = some (.string lb) := by rw [hc2 _ _ (by simp)]; go_simp
    have e3 : W2.cell? ⟨w.heap.size + 2, 5, none⟩ = some (.string ky) := by rw [hc2 _ _ (by simp)]; go_simp
    have e4 : W2.cell? ⟨w.heap.size + 2, 3, none⟩ = some (.bool bk) := by rw [hc2 _ _ (by simp)]; go_simp
    have e5 : W2.cell? ⟨w.heap.size + 2, 6, none⟩ = some (.int .i64 cd) := by rw [hc2 _ _ (by simp)]; go_simp
    have hsz : w.heap.size + 2 < W2.heap.size := by have := HB2.size; simp at this; omega
    have HB2' := Lib.hid HB2
    clear HB2 hc2 hf2
    go_upto_block 2 with (fail)
    go_cut [6, 9] from 9 to 69 (fun s6 s9 wx => s9 = .int .i64 0 ∧ LS wx s6 (words k p q bk lb ky cd) ∧ Below (W5 k p q bk lb ky cd w).heap.size (W5 k p q bk lb ky cd w) wx)
    case first =>
      go_wp2_with (go_at_call 14; refine (HI.out _ _ rc (below_alloc HB2'.out _)).mono ?_; rintro e W6 ⟨rfl, hb6⟩)
      all_goals try clear HI
      all_goals (go_meet; refine ⟨rfl, ?_, ?_⟩)
      all_goals first
        | exact below_alloc HB2'.out _
        | exact (below_alloc (below_alloc (below_alloc HB2'.out _) _) _).drew
        | exact below_alloc (below_call (below_alloc HB2'.out _) hb6) _
        | (simp only [words, *, cond_true, cond_false]
           exact LS.of (heap_alloc_new _ _) (Nat.le_refl _) rfl ⟨_, by simp only [Array.toList_append, List.cons_append, List.nil_append, List.map_cons, List.map_nil]; rfl⟩)
        | (simp only [words, *, cond_true, cond_false]
           exact LS.of (alloc3 _ _ _ _) (Nat.le_add_right _ _) rfl ⟨_, by simp only [Array.toList_append, List.cons_append, List.nil_append, List.map_cons, List.map_nil]; rfl⟩)
    case rest =>
      obtain ⟨rfl, ⟨N, c, rfl, hc, hN, hcells⟩, HB3⟩ := hcut
      have hbb : wc.heap[w.heap.size + 1]? = some (.cells #[.pointer none, .slice none 0 0] 60 (0, 0)) := by
        rw [HB3.block _ (by simp)]
        exact alloc_mid _ _ _ _
      have hwc : w.heap.size + 1 < wc.heap.size := by have := HB3.size; simp at this; omega
      have hX := HX.out
      clear HX
      have hJ := joinT hX
      generalize hxs : words k p q bk lb ky cd = xs at hX hJ hc hcells ⊢
      replace hxs := Lib.hid hxs
      have HJ := Lib.hid hJ
      have HW := Lib.hid hbb
      have HB := Lib.hid HB3
      clear hJ hbb HB3 HI HB2'
      go_wp2_with (go_at_call 16; refine (Tryz.strings_Join N 0 c xs ⟨#[32]⟩ _ hcells hN HJ.out.1 hc HJ.out.2.1).mono ?_; rintro e W4 ⟨rfl, hb4⟩)
      have h15 := Tryz.Builder_WriteString (w.heap.size + 1) (w.heap.size + 1) [] ((ByteArray.mk (Lib.join (xs.map (·.data.toList)) [32]).toArray) ++ ByteArray.mk #[10]) W4 (bld_fresh (Nat.le_refl _) ((hb4.block _ hwc).trans HW.out)) HJ.out.2.2 (Nat.le_trans (Nat.le_of_lt hwc) hb4.size)
      refine h15.mono ?_
      rintro e W7 ⟨rfl, hB7, hb7⟩
      clear h15
      go_wp2
      rw [rounds_succ]
      have h17 := Tryz.Builder_String_any (w.heap.size + 1) (w.heap.size + 1) ((Lib.join (xs.map (·.data.toList)) [32]) ++ [10]) W7 (.inr (bytes_cells hB7)) (Nat.le_trans (Nat.le_trans (Nat.le_of_lt hwc) hb4.size) hb7.size)
      go_wp2_with (go_at_call 17; refine h17.mono ?_; rintro e W8 ⟨rfl, hb8⟩)
      go_ret
      have hx' := hxs.out
      subst hx'
      exact ⟨rfl, text_below HB.out hb4 hb7 hb8⟩
end Go.Proofs.Wk
