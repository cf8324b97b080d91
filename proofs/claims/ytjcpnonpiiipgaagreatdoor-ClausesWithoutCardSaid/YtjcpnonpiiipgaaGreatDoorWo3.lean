/-
  By hand: a list of one's own whose rows are data. Own text.
-/
import Derived.Test.YtjcpnonpiiipgaaGreatDoorWo2
import Derived.WalkKit
import Derived.LoopN
import Derived.OwnWalk
import Derived.Maps.AppendAt
import Derived.Lib.Hide
import Derived.RangeFuncRecord
import Derived.Shelf.Abstract
import Derived.Deep.RegionHeld3
import Derived.Deep.Cut
import Derived.Laws.EntriesVeiled
set_option linter.all false
namespace Go.Proofs.Wo
open Go.Exo Go.Exo.Wo Go.RowKit
set_option linter.all false
def Dat (φ:Nat→Nat→Option Value)(w:World):Prop:=∀ b o v,φ b o=some v→w.cell? ⟨b,o,none⟩=some v
structure Grows (w w':World)(φ φ':Nat→Nat→Option Value):Prop where
 sub:∀ b o v,φ b o=some v→φ' b o=some v
 dat:Dat φ' w'
 new:∀ b o v,φ' b o=some v→b<w.heap.size→φ b o=some v
theorem Dat.lt {φ:Nat→Nat→Option Value}{w:World}(h:Dat φ w){b o:Nat}{v:Value}(hv:φ b o=some v):b<w.heap.size:=World.block_lt_of_cell? w ⟨b,o,none⟩ (h b o v hv)
theorem Grows.refl {w:World}{φ:Nat→Nat→Option Value}(h:Dat φ w):Grows w w φ φ:=⟨fun _ _ _ h=>h,h,fun _ _ _ h _=>h⟩
theorem Grows.trans {a b c:World}{φ φ' φ'':Nat→Nat→Option Value}(h:Grows a b φ φ')(h':Grows b c φ' φ'')(hs:a.heap.size≤b.heap.size):Grows a c φ φ'':=
 ⟨fun b o v hv=>h'.sub _ _ _ (h.sub _ _ _ hv),h'.dat,fun b o v hv hb=>h.new _ _ _ (h'.new _ _ _ hv (Nat.lt_of_lt_of_le hb hs)) hb⟩
theorem Dat.below {φ:Nat→Nat→Option Value}{w w':World}(h:Dat φ w)(hb:Below w.heap.size w w'):Dat φ w':=fun b o v hv=>by
 have:=h.lt hv
 rw[hb.cell (p:=⟨b,o,none⟩) this];exact h b o v hv
theorem Dat.but {φ:Nat→Nat→Option Value}{w w':World}(h:Dat φ w){row:Option Nat}(hg:w.grownBy w' row)(hn:∀ b o v,φ b o=some v→row≠some b):Dat φ w':=fun b o v hv=>by
 have h1:=hg.block b (h.lt hv) (fun e=>hn b o v hv e.symm)
 have h2:=h b o v hv
 unfold World.cell? at h2 ⊢
 rw[h1];exact h2
theorem Grows.below {w w' w'':World}{φ φ':Nat→Nat→Option Value}(h:Grows w w' φ φ')(hb:Below w'.heap.size w' w''):Grows w w'' φ φ':=⟨h.sub,h.dat.below hb,h.new⟩
theorem Grows.but {w w' w'':World}{φ φ':Nat→Nat→Option Value}(h:Grows w w' φ φ'){row:Option Nat}(hg:w'.grownBy w'' row)(hn:∀ b o v,φ' b o=some v→row≠some b):Grows w w'' φ φ':=⟨h.sub,h.dat.but hg hn,h.new⟩
theorem Below.ofExt {w w':World}(h:Ext w w'):Below w.heap.size w w':=⟨h.os,h.tape,h.output,h.size,h.old⟩
theorem gd_below {k:Nat}{G:World→Prop}(hG:Gd0 k G){B:Nat}{w w':World}(h:G w)(hB:k≤B)(hb:Below B w w'):G w':=hG.keep _ _ (fun b hb'=>hb.block b (by omega)) h
theorem cr_oneCell {F:Nat→Nat→Value→Prop}{k:Kd}{v:Value}{c:Cl}(h:CR F k v c):v.oneCell'=true:=by
 cases h<;>first|rfl|assumption
theorem crs6 {F:Nat→Nat→Value→Prop}{xs:List Value}{cs:List Cl}(h:CRs F vK xs cs):∃ y0 y1 y2 y3 y4 y5,xs=[y0,y1,y2,y3,y4,y5]:=by
 cases h with|cons _ h=>cases h with|cons _ h=>cases h with|cons _ h=>cases h with|cons _ h=>cases h with|cons _ h=>cases h with|cons _ h=>cases h;exact⟨_,_,_,_,_,_,rfl⟩
theorem crs_one {F:Nat→Nat→Value→Prop}{ks:List Kd}{xs:List Value}{cs:List Cl}(h:CRs F ks xs cs):∀ u∈xs,u.oneCell'=true:=by
 induction h with
 |nil=>intro u hu;cases hu
 |cons h1 _ ih=>
  intro u hu
  cases hu with
  |head=>exact cr_oneCell h1
  |tail _ hu=>exact ih u hu
def RowsV (F:Nat→Nat→Value→Prop)(xs:List Value)(out:List (List Cl)):Prop:=
 xs.length=out.length*6∧∀ (i:Nat)(r:List Cl),out[i]? = some r→∃ y0 y1 y2 y3 y4 y5,xs[i*6]? = some y0∧xs[i*6+1]? = some y1∧xs[i*6+2]? = some y2∧xs[i*6+3]? = some y3∧xs[i*6+4]? = some y4∧xs[i*6+5]? = some y5∧CRs F vK [y0,y1,y2,y3,y4,y5] r
theorem RowsV.nil {F:Nat→Nat→Value→Prop}:RowsV F [] []:=⟨rfl,fun i r h=>by simp at h⟩
theorem RowsV.mono {F F':Nat→Nat→Value→Prop}(hF:∀ b o v,F b o v→F' b o v){xs:List Value}{out:List (List Cl)}(h:RowsV F xs out):RowsV F' xs out:=
 ⟨h.1,fun i r hr=>by
  obtain⟨y0,y1,y2,y3,y4,y5,a0,a1,a2,a3,a4,a5,hc⟩:=h.2 i r hr
  exact⟨y0,y1,y2,y3,y4,y5,a0,a1,a2,a3,a4,a5,hc.mono hF⟩⟩
theorem RowsV.snoc {F:Nat→Nat→Value→Prop}{xs:List Value}{out:List (List Cl)}{y0 y1 y2 y3 y4 y5:Value}{r:List Cl}(h:RowsV F xs out)(hc:CRs F vK [y0,y1,y2,y3,y4,y5] r):RowsV F (xs++[y0,y1,y2,y3,y4,y5]) (out++[r]):=by
 refine⟨by simp[h.1];omega,fun i r' hr=>?_⟩
 by_cases hi:i<out.length
 ·rw[List.getElem?_append_left hi] at hr
  obtain⟨z0,z1,z2,z3,z4,z5,a0,a1,a2,a3,a4,a5,hc⟩:=h.2 i r' hr
  have hl:=h.1
  exact⟨z0,z1,z2,z3,z4,z5,by rw[List.getElem?_append_left (by omega)];exact a0,by rw[List.getElem?_append_left (by omega)];exact a1,by rw[List.getElem?_append_left (by omega)];exact a2,
   by rw[List.getElem?_append_left (by omega)];exact a3,by rw[List.getElem?_append_left (by omega)];exact a4,by rw[List.getElem?_append_left (by omega)];exact a5,hc⟩
 ·have h1:=(List.getElem?_eq_some_iff.1 hr).1
  have hi':i=out.length:=by simp at h1;omega
  subst hi'
  simp at hr
  subst hr
  have hl:=h.1
  refine⟨y0,y1,y2,y3,y4,y5,?_,?_,?_,?_,?_,?_,hc⟩<;>(rw[List.getElem?_append_right (by omega)];simp[hl])
theorem RowsV.set {F:Nat→Nat→Value→Prop}{xs:List Value}{out:List (List Cl)}{y0 y1 y2 y3 y4 y5:Value}{r:List Cl}{i:Nat}(h:RowsV F xs out)(hc:CRs F vK [y0,y1,y2,y3,y4,y5] r)(hi:i<out.length) :
  RowsV F ((((((xs.set (i*6) y0).set (i*6+1) y1).set (i*6+2) y2).set (i*6+3) y3).set (i*6+4) y4).set (i*6+5) y5) (out.set i r):=by
 refine⟨by simp[h.1],fun j r' hr=>?_⟩
 have hl:=h.1
 by_cases e:j=i
 ·subst e
  rw[List.getElem?_set_self hi] at hr
  cases hr
  refine⟨y0,y1,y2,y3,y4,y5,?_,?_,?_,?_,?_,?_,hc⟩<;>simp only[List.getElem?_set,List.length_set]
  all_goals simp
  all_goals omega
 ·rw[List.getElem?_set_ne (Ne.symm e)] at hr
  have hj:=(List.getElem?_eq_some_iff.1 hr).1
  obtain⟨z0,z1,z2,z3,z4,z5,a0,a1,a2,a3,a4,a5,hc'⟩:=h.2 j r' hr
  refine⟨z0,z1,z2,z3,z4,z5,?_,?_,?_,?_,?_,?_,hc'⟩
  ·rw[List.getElem?_set_ne (by omega),List.getElem?_set_ne (by omega),List.getElem?_set_ne (by omega),List.getElem?_set_ne (by omega),List.getElem?_set_ne (by omega),List.getElem?_set_ne (by omega)];exact a0
  ·rw[List.getElem?_set_ne (by omega),List.getElem?_set_ne (by omega),List.getElem?_set_ne (by omega),List.getElem?_set_ne (by omega),List.getElem?_set_ne (by omega),List.getElem?_set_ne (by omega)];exact a1
  ·rw[List.getElem?_set_ne (by omega),List.getElem?_set_ne (by omega),List.getElem?_set_ne (by omega),List.getElem?_set_ne (by omega),List.getElem?_set_ne (by omega),List.getElem?_set_ne (by omega)];exact a2
  ·rw[List.getElem?_set_ne (by omega),List.getElem?_set_ne (by omega),List.getElem?_set_ne (by omega),List.getElem?_set_ne (by omega),List.getElem?_set_ne (by omega),List.getElem?_set_ne (by omega)];exact a3
  ·rw[List.getElem?_set_ne (by omega),List.getElem?_set_ne (by omega),List.getElem?_set_ne (by omega),List.getElem?_set_ne (by omega),List.getElem?_set_ne (by omega),List.getElem?_set_ne (by omega)];exact a4
  ·rw[List.getElem?_set_ne (by omega),List.getElem?_set_ne (by omega),List.getElem?_set_ne (by omega),List.getElem?_set_ne (by omega),List.getElem?_set_ne (by omega),List.getElem?_set_ne (by omega)];exact a5
theorem slice_form {F:Nat→Nat→Value→Prop}{x:Value}{nl:Bool}{rows:List (List Cl)}(h:CR F (.sl 26) x (.sl nl rows)):∃ a cap,x=.slice a rows.length cap∧rows.length≤maxLen∧
  ∀ (i:Nat)(r:List Cl),rows[i]? = some r→∃ blk off y0 y1 y2 y3 y4 y5,a=some ⟨blk,off,none⟩∧F blk (off+i*6) y0∧F blk (off+i*6+1) y1∧F blk (off+i*6+2) y2∧F blk (off+i*6+3) y3∧F blk (off+i*6+4) y4∧F blk (off+i*6+5) y5∧CRs F vK [y0,y1,y2,y3,y4,y5] r:=by
 cases h with
 |nil=>exact⟨none,0,rfl,Nat.zero_le _,fun i r h=>by simp at h⟩
 |e0 _ a=>exact⟨some a,0,rfl,Nat.zero_le _,fun i r h=>by simp at h⟩
 |sl _ blk off len cap _ vs a1 a2 a3 a4 a5 a6=>
  subst a1
  refine⟨_,cap,rfl,by omega,fun i r hr=>?_⟩
  have hl:r.length=6:=a4 i r hr
  obtain⟨c0,c1,c2,c3,c4,c5,rfl⟩:∃ c0 c1 c2 c3 c4 c5,r=[c0,c1,c2,c3,c4,c5]:=by
   match r,hl with
   |[c0,c1,c2,c3,c4,c5],_=>exact⟨_,_,_,_,_,_,rfl⟩
  exact⟨blk,off,vs i 0,vs i 1,vs i 2,vs i 3,vs i 4,vs i 5,rfl,a5 i _ 0 _ hr rfl,a5 i _ 1 _ hr rfl,a5 i _ 2 _ hr rfl,a5 i _ 3 _ hr rfl,a5 i _ 4 _ hr rfl,a5 i _ 5 _ hr rfl,
   .cons (a6 i _ 0 _ _ hr rfl rfl) (.cons (a6 i _ 1 _ _ hr rfl rfl) (.cons (a6 i _ 2 _ _ hr rfl rfl) (.cons (a6 i _ 3 _ _ hr rfl rfl) (.cons (a6 i _ 4 _ _ hr rfl rfl) (.cons (a6 i _ 5 _ _ hr rfl rfl) .nil)))))⟩
theorem own_stays {w:World}{base:Nat}{v:Value}{xs:List Value}{out:List (List Cl)}{φ:Nat→Nat→Option Value}(ho:w.ownsRow base 26 6 v out.length xs)(hr:RowsV (rel φ) xs out)(hd:Dat φ w)(hn:∀ b o u,φ b o=some u→v.ownBlock≠some b) :
  ∃ φ' nl,(∀ b o u,φ b o=some u→φ' b o=some u)∧Dat φ' w∧(∀ b o u,φ' b o=some u→b<base→φ b o=some u)∧CR (rel φ') (.sl 26) v (.sl nl out):=by
 rcases ho.2 with⟨rfl,h0⟩|⟨g,cap,cur,rfl,hg,hh,hncp,hcpm,hcs,htake⟩
 ·have:out=[]:=List.length_eq_zero_iff.1 h0
  subst this
  exact⟨φ,true,fun _ _ _ h=>h,hd,fun _ _ _ h _=>h,.nil 26⟩
 ·have hne:∀ b o u,φ b o=some u→b≠g:=fun b o u h e=>hn b o u h (by rw[e];rfl)
  refine⟨fun b o=>if b=g∧o<out.length*6 then xs[o]? else φ b o,false,fun b o u h=>?_,fun b o u h=>?_,fun b o u h hb=>?_,?_⟩
  ·show (if b=g∧o<out.length*6 then xs[o]? else φ b o)=some u
   rw[if_neg (fun e=>hne b o u h e.1)];exact h
  ·simp only at h
   split at h
   ·rename_i e
    obtain⟨rfl,h3⟩:=e
    rw[← htake,List.getElem?_take_of_lt h3] at h
    simpa[World.cell?,hh] using h
   ·exact hd b o u h
  ·simp only at h
   split at h
   ·rename_i e;omega
   ·exact h
  ·have hsub:∀ b o u,rel φ b o u→(fun b o=>if b=g∧o<out.length*6 then xs[o]? else φ b o) b o=some u:=fun b o u h=>by
    show (if b=g∧o<out.length*6 then xs[o]? else φ b o)=some u
    rw[if_neg (fun e=>hne b o u h e.1)];exact h
   have hrow:∀ (i:Nat)(r:List Cl),out[i]? = some r→∃ ys,xs[i*6]? = ys[0]? ∧ xs[i*6+1]? = ys[1]? ∧ xs[i*6+2]? = ys[2]? ∧ xs[i*6+3]? = ys[3]? ∧ xs[i*6+4]? = ys[4]? ∧ xs[i*6+5]? = ys[5]? ∧ CRs (rel φ) vK ys r:=fun i r h=>by
    obtain⟨y0,y1,y2,y3,y4,y5,a0,a1,a2,a3,a4,a5,hc⟩:=hr.2 i r h
    exact⟨[y0,y1,y2,y3,y4,y5],a0,a1,a2,a3,a4,a5,hc⟩
   have hlen:∀ (i:Nat)(r:List Cl),out[i]? = some r→r.length=6:=fun i r h=>by
    obtain⟨ys,_,_,_,_,_,_,hc⟩:=hrow i r h
    exact hc.wt.length.symm
   have hcr:∀ {ks:List Kd}{ys:List Value}{r:List Cl},CRs (rel φ) ks ys r→∀ (j:Nat) c k,r[j]? = some c→ks[j]? = some k→∃ y,ys[j]? = some y∧CR (rel φ) k y c:=by
    intro ks ys r h
    induction h with
    |nil=>intro j c k h;simp at h
    |cons h1 _ ih=>
     intro j c k hc hk
     cases j with
     |zero=>simp at hc hk;subst hc;subst hk;exact⟨_,rfl,h1⟩
     |succ j=>simp at hc hk;simpa using ih j c k hc hk
   have hxs:∀ (i:Nat)(r:List Cl)(j:Nat),out[i]? = some r→j<6→∀ ys,xs[i*6]? = ys[0]? → xs[i*6+1]? = ys[1]? → xs[i*6+2]? = ys[2]? → xs[i*6+3]? = ys[3]? → xs[i*6+4]? = ys[4]? → xs[i*6+5]? = ys[5]? → xs[i*6+j]? = (ys:List Value)[j]? := by
    intro i r j _ hj ys a0 a1 a2 a3 a4 a5
    match j,hj with
    |0,_=>exact a0
    |1,_=>exact a1
    |2,_=>exact a2
    |3,_=>exact a3
    |4,_=>exact a4
    |5,_=>exact a5
   refine .sl 26 g 0 out.length cap out (fun i j=>(xs[i*6+j]?).getD .nilIface) rfl hncp hcpm hlen (fun i r j c h1 h2=>?_) (fun i r j c k h1 h2 h3=>?_)
   ·have hi:i<out.length:=(List.getElem?_eq_some_iff.1 h1).1
    have hj:j<6:=by have:=(List.getElem?_eq_some_iff.1 h2).1;have:=hlen i r h1;omega
    show (if g=g∧0+i*6+j<out.length*6 then xs[0+i*6+j]? else φ g (0+i*6+j))=some ((xs[i*6+j]?).getD .nilIface)
    rw[if_pos ⟨rfl,by omega⟩,Nat.zero_add]
    have hl:=hr.1
    rw[List.getElem?_eq_getElem (by omega)];rfl
   ·obtain⟨ys,a0,a1,a2,a3,a4,a5,hc⟩:=hrow i r h1
    have hj:j<6:=by have:=(List.getElem?_eq_some_iff.1 h2).1;have:=hlen i r h1;omega
    obtain⟨y,hy,hyc⟩:=hcr hc j c k h2 h3
    have e:=hxs i r j h1 hj ys a0 a1 a2 a3 a4 a5
    simp only[e,hy,Option.getD_some]
    exact hyc.mono hsub
variable {k:Nat}{G:World→Prop}
theorem row_form {F:Nat→Nat→Value→Prop}{y0 y1 y2 y3 y4 y5:Value}{r:List Cl}(h:CRs F vK [y0,y1,y2,y3,y4,y5] r):∃ k b n s a4 l4 c4 a5 l5 c5,y0=.int .i64 k∧y1=.bool b∧y2=.int .i64 n∧y3=.string s∧y4=.slice a4 l4 c4∧y5=.slice a5 l5 c5:=by
 have sl:∀ {e:TypeId}{v:Value}{c:Cl},CR F (.sl e) v c→∃ a l c',v=.slice a l c':=fun h=>by cases h<;>exact⟨_,_,_,rfl⟩
 cases h with|cons h0 h=>cases h with|cons h1 h=>cases h with|cons h2 h=>cases h with|cons h3 h=>cases h with|cons h4 h=>cases h with|cons h5 h=>
  obtain⟨a4,l4,c4,rfl⟩:=sl h4
  obtain⟨a5,l5,c5,rfl⟩:=sl h5
  cases h0;cases h1;cases h2;cases h3
  exact⟨_,_,_,_,_,_,_,_,_,_,rfl,rfl,rfl,rfl,rfl,rfl⟩
abbrev c6 (k:Int)(b:Bool)(n:Int)(s:ByteArray)(a4:Option Addr)(l4 c4:Nat)(a5:Option Addr)(l5 c5:Nat):List Value:=[.int .i64 k,.bool b,.int .i64 n,.string s,.slice a4 l4 c4,.slice a5 l5 c5]
def CopyC (w:World)(φ:Nat→Nat→Option Value)(ds:List Cl)(e:Ending)(w':World):Prop:=
 ∃ k b n s a4 l4 c4 a5 l5 c5 φ',e=.returned (.agg #[.int .i64 k,.bool b,.int .i64 n,.string s,.slice a4 l4 c4,.slice a5 l5 c5])∧Below w.heap.size w w'∧Hid (Grows w w' φ φ'∧CRs (rel φ') vK (c6 k b n s a4 l4 c4 a5 l5 c5) ds)
theorem spec_vA {f n:Nat}{Pre:Nat→List Cl→Prop}{F:List Cl→List Cl}(hS:Go.Exo.Spec Tryz.prog G f [vA] (.one vA) (Pre n) F){w:World}{φ:Nat→Nat→Option Value}(hGw:G w)(hφ:Dat φ w){y0 y1 y2 y3 y4 y5:Value}{r:List Cl}(hy:CRs (rel φ) vK [y0,y1,y2,y3,y4,y5] r)(hp:Pre n r) :
  Calls Tryz.prog f #[.agg #[y0,y1,y2,y3,y4,y5]] w (CopyC w φ (F r)):=by
 have ha:ArgR (rel φ) [vA] [.agg [y0,y1,y2,y3,y4,y5].toArray] (r++[]):=.agg hy .nil
 rw[List.append_nil] at ha
 refine (hS w φ _ r hGw hφ ha hp).mono ?_
 rintro e w' ⟨x,φ',rfl,h1,h2,h3,h4,h5⟩
 have h5':ArgR (rel φ') [vA] [x] (F r):=h5
 generalize F r=d at h5' ⊢
 cases h5' with
 |agg h6 h7=>
  cases h7
  obtain⟨z0,z1,z2,z3,z4,z5,rfl⟩:=crs6 h6
  obtain⟨k,b,n,s,a4,l4,c4,a5,l5,c5,rfl,rfl,rfl,rfl,rfl,rfl⟩:=row_form h6
  rw[List.append_nil]
  exact⟨_,_,_,_,_,_,_,_,_,_,φ',rfl,Below.ofExt h4,⟨⟨h1,h2,h3⟩,h6⟩⟩
end Go.Proofs.Wo

namespace Go.Proofs.Wo
open Go.Exo Go.Exo.Wo Go.RowKit
set_option maxRecDepth 100000
set_option linter.all false
variable {k:Nat}{G:World→Prop}
theorem info26:(Tryz.prog.info? 26).map (fun i=>(i.zero,i.size,i.bytes))=some (some (.agg #[.int .i64 0,.bool false,.int .i64 0,.string { data:=#[] },.slice none 0 0,.slice none 0 0]),6,88):=by kernel_rfl
theorem own_below {w w':World}{base:Nat}{e:TypeId}{v:Value}{n:Nat}{xs:List Value}(h:w.ownsRow base e 6 v n xs)(hb:Below w.heap.size w w'):w'.ownsRow base e 6 v n xs:=by
 refine⟨h.1,?_⟩
 rcases h.2 with h0|⟨g,cap,cur,h1,h2,h3,h4⟩
 ·exact .inl h0
 ·exact .inr ⟨g,cap,cur,h1,h2,(hb.block g (Array.getElem?_eq_some_iff.1 h3).1).trans h3,h4⟩
theorem own_ge {w:World}{base:Nat}{e:TypeId}{v:Value}{n:Nat}{xs:List Value}(h:w.ownsRow base e 6 v n xs):∀ k,v.ownBlock=some k→base≤k:=by
 rcases h.2 with⟨rfl,_⟩|⟨g,cap,cur,rfl,hg,_⟩
 ·intro k hk;cases hk
 ·intro k hk;cases hk;exact hg
theorem cells_cell {W:World}{B o:Nat}{c:Array Value}{t:TypeId}{fr:Nat×Nat}{v:Value}(h:W.heap[B]? = some (.cells c t fr))(hv:c[o]? = some v):W.cell? ⟨B,o,none⟩=some v:=by simp[World.cell?,h,hv]
theorem cells_frozen {W:World}{B o:Nat}{c:Array Value}{t:TypeId}(h:W.heap[B]? = some (.cells c t (0,0))):W.frozen? ⟨B,o,none⟩=false:=by simp[World.frozen?,h]
theorem cells_new (W:World)(c:Array Value)(t:TypeId):(W.alloc (.cells c t)).heap[W.heap.size]? = some (.cells c t (0,0)):=World.alloc_heap_new W _
theorem new_cells {w:World}{cs:Array Value}{t:TypeId}:∀ (j:Nat)(u:Value),cs.toList[j]? = some u→(w.alloc (.cells cs t)).cell? ((⟨w.heap.size,0,none⟩:Addr).add j)=some u:=fun j u h=>by
 have:((⟨w.heap.size,0,none⟩:Addr).add j)=⟨w.heap.size,j,none⟩:=by
  cases j with
  |zero=>rfl
  |succ j=>simp[Addr.add]
 rw[this]
 exact cells_cell (World.alloc_heap_new w _) (by simpa using h)
theorem bcell {W w1:World}(hb:Below W.heap.size W w1):(∀ b o,b<W.heap.size→w1.cell? ⟨b,o,none⟩=W.cell? ⟨b,o,none⟩)∧(∀ b o,b<W.heap.size→w1.frozen? ⟨b,o,none⟩=W.frozen? ⟨b,o,none⟩):=
 ⟨fun b o h=>hb.cell (p:=⟨b,o,none⟩) h,fun b o h=>hb.frozen (p:=⟨b,o,none⟩) h⟩
theorem info_parts {i:Option TypeInfo}{z:Value}{s b:Nat}(h:i.map (fun i=>(i.zero,i.size,i.bytes))=some (some z,s,b)):∃ i0,i=some i0∧i0.zero=some z∧i0.size=s∧i0.bytes=b:=by
 cases i with
 |none=>cases h
 |some i0=>simp at h;exact⟨i0,rfl,h.1,h.2.1,h.2.2⟩
theorem step_below {W0 wr w4 w5:World}{B:Nat}{o:Obj}{v:Value}(hB:Below B W0 wr)(hb4:Below wr.heap.size wr w4)(hs:B≤W0.heap.size)(hg:(w4.alloc o).grownBy w5 v.ownBlock)(hr:∀ k,v.ownBlock=some k→B≤k):Below B W0 w5:=by
 have h1:=hB.trans (hb4.mono (Nat.le_trans hs hB.size))
 exact (h1.alloc (Nat.le_trans hs h1.size) o).grown hg (by have:=h1.size;simp;omega) hr
def CInv (w:World)(φ:Nat→Nat→Option Value)(rows:List (List Cl))(v:Value)(k:Nat)(wr:World)(xs:List Value):Prop:=
 ∃ φk out,Grows w wr φ φk∧RowsV (rel φk) xs out∧(∀ b o u,φk b o=some u→v.ownBlock≠some b)∧nrmRs out=nrmRs (rows.take k)∧out.length=k
def CopiesPost (w:World)(φ:Nat→Nat→Option Value)(rows:List (List Cl))(e:Ending)(w':World):Prop:=
 Below w.heap.size w w'∧∃ v xs,e=.returned v∧w'.ownsRow w.heap.size 26 6 v rows.length xs∧CInv w φ rows v rows.length w' xs
theorem CInv.step {w wr w4 w5:World}{φ φ4:Nat→Nat→Option Value}{rows:List (List Cl)}{v v':Value}{k:Nat}{xs:List Value}{o o':Obj}{z0 z1 z2 z3 z4 z5:Value}{r d:List Cl}{φk:Nat→Nat→Option Value}{out:List (List Cl)}
  (hws:w.heap.size≤wr.heap.size)(hg:Grows w wr φ φk)(hx:RowsV (rel φk) xs out)(hn:∀ b o u,φk b o=some u→v.ownBlock≠some b)(hv:∀ g,v.ownBlock=some g→g<wr.heap.size)(ht:nrmRs out=nrmRs (rows.take k))(hl:out.length=k)
  (hr:rows[k]? = some r)(hd:nrmR d=nrmR r)(h4:Grows (wr.alloc o) w4 φk φ4)(hc:CRs (rel φ4) vK [z0,z1,z2,z3,z4,z5] d)
  (hgr:(w4.alloc o').grownBy w5 v.ownBlock)(hat:v'.ownBlock=v.ownBlock∨v'.ownBlock=some (w4.alloc o').heap.size):CInv w φ rows v' (k+1) w5 (xs++[z0,z1,z2,z3,z4,z5]):=by
 have hn4:∀ b o u,φ4 b o=some u→v.ownBlock≠some b:=fun b o u h e=>by
  have:=hv b e
  exact hn b o u (h4.new b o u h (by simp;omega)) e
 have g1:Grows wr w4 φk φ4:=⟨h4.sub,h4.dat,fun b o u h hb=>h4.new b o u h (by simp;omega)⟩
 have g3:Grows w (w4.alloc o') φ φ4:=(hg.trans g1 hws).below ((Below.refl _ _).alloc (Nat.le_refl _) _)
 refine⟨φ4,out++[d],g3.but hgr hn4,(hx.mono h4.sub).snoc hc,fun b o u h e=>?_,nrm_snoc ht hr hd,by simp[hl]⟩
 rcases hat with h1|h1
 ·rw[h1] at e;exact hn4 b o u h e
 ·rw[h1] at e
  have h2:=h4.dat.lt h
  simp at e;omega
set_option maxHeartbeats 4000000 in
theorem copies_own {n:Nat}{F:List Cl→List Cl}(hG:Gd0 k G)(hS:Go.Exo.Spec Tryz.prog G 16 [vA] (.one vA) (copyPre n) F)(hF:∀ c,copyPost c (F c)){w:World}{φ:Nat→Nat→Option Value}(hGw:G w)(hφ:Dat φ w){x:Value}{nl:Bool}{rows:List (List Cl)}
  (hx:CR (rel φ) (.sl 26) x (.sl nl rows))(hp:copiesPre (n+1) [.sl nl rows]):Calls Tryz.prog 37 #[x] w (CopiesPost w φ rows):=by
 obtain⟨a,cap,rfl,hmax,hrow⟩:=slice_form hx
 have hbig:rows.length*88≤140737488355328:=(hp.1 0 _ _ rfl rfl).open.1
 have hkw:=hG.size w hGw
 obtain⟨i0,hi,hz0,hz1,hz2⟩:=info_parts info26
 have hC:∀ (i:Nat)(r:List Cl)(W:World)(φ':Nat→Nat→Option Value)(y0 y1 y2 y3 y4 y5:Value),rows[i]? = some r→G W→Dat φ' W→CRs (rel φ') vK [y0,y1,y2,y3,y4,y5] r→
   Calls Tryz.prog 16 #[.agg #[y0,y1,y2,y3,y4,y5]] W (CopyC W φ' (F r))∧nrmR (F r)=nrmR r:=by
  intro i r W φ' y0 y1 y2 y3 y4 y5 hr hGW hd hc
  have hme:=List.mem_of_getElem? hr
  obtain⟨k,b,n',s,nl',ys,ml,rs,rfl,-⟩:=row6 hc.wt
  obtain⟨ml',rs',e,e2⟩:=(hF [.int k,.bool b,.int n',.str s,.sl nl' ys,.sl ml rs]).2 _ _ _ _ _ _ _ _ rfl
  refine⟨spec_vA hS hGW hd hc ⟨(hp.1 0 _ _ rfl rfl).open.2 _ hme,?_⟩,?_⟩
  ·have z1:=List.sizeOf_lt_of_mem hme
   have hm:=hp.2
   simp only[List.cons.sizeOf_spec,List.nil.sizeOf_spec,Cl.sl.sizeOf_spec] at z1 hm ⊢
   omega
  ·rw[e];simp only[nrmR,nrm,e2]
 have HC:=Go.Lib.hid hC
 have HR:=Go.Lib.hid hrow
 have HX:=Go.Lib.hid hx
 have HP:=Go.Lib.hid hp
 have HD:=Go.Lib.hid hφ
 have HG:=Go.Lib.hid hG
 have HGw:=Go.Lib.hid hGw
 clear hC hrow hx hp hS hF hφ hG hGw
 simp only[maxLen] at hmax
 go_enter Tryz.func37,Tryz.ntmps37
 go_wp2
 go_loopw [3,8] (fun v i wr=>∃ (k:Nat)(xs:List Value),k≤rows.length∧i=.int .i64 k∧wr.ownsRow w.heap.size 26 6 v k xs∧Below w.heap.size w wr∧Hid (CInv w φ rows v k wr xs)) (fun _ i _=>rows.length-(intOf i).toNat)
 case atStart=>exact⟨0,[],Nat.zero_le _,rfl,World.ownsRow_nil _ _ _ _,Below.refl _ _,⟨φ,[],Grows.refl HD.out,RowsV.nil,(fun b o u h e=>by cases e),by simp[nrmRs],rfl⟩⟩
 case round=>
  obtain⟨j,xs,hj,rfl,hown,hB,HI⟩:=hrel
  have hsB:=hB.size
  by_cases hlt:j<rows.length
  ·obtain⟨r,hr⟩:∃ r,rows[j]? = some r:=⟨rows[j],by simp[hlt]⟩
   obtain⟨φk,out,hg,hrv,hn,ht,hl⟩:=HI.out
   obtain⟨blk,off,y0,y1,y2,y3,y4,y5,rfl,f0,f1,f2,f3,f4,f5,hcr⟩:=HR.out j r hr
   obtain⟨ka,ba,na,sa,a4,l4,d4,a5,l5,d5,rfl,rfl,rfl,rfl,rfl,rfl⟩:=row_form hcr
   have e0:=hg.dat _ _ _ (hg.sub _ _ _ f0)
   have e1:=hg.dat _ _ _ (hg.sub _ _ _ f1)
   have e2:=hg.dat _ _ _ (hg.sub _ _ _ f2)
   have e3:=hg.dat _ _ _ (hg.sub _ _ _ f3)
   have e4:=hg.dat _ _ _ (hg.sub _ _ _ f4)
   have e5:=hg.dat _ _ _ (hg.sub _ _ _ f5)
   have hvlt:∀ g,u3.ownBlock=some g→g<wr.heap.size:=fun g e=>by
    rcases hown.2 with⟨rfl,_⟩|⟨g',cap',cur,rfl,h1,h2,h3⟩
    ·cases e
    ·cases e;exact (Array.getElem?_eq_some_iff.1 h2).1
   have HV:=Go.Lib.hid hvlt
   have HCR:=Go.Lib.hid hcr
   have Hg:=Go.Lib.hid hg
   have Hrv:=Go.Lib.hid hrv
   have Hn:=Go.Lib.hid hn
   have Ht:=Go.Lib.hid ht
   have Hl:=Go.Lib.hid hl
   have Hr:=Go.Lib.hid hr
   clear hvlt hcr hg hrv hn ht hl hr f0 f1 f2 f3 f4 f5 HI
   have hb2:=(HC.out _ _ wr _ _ _ _ _ _ _ Hr.out (gd_below HG.out HGw.out hkw hB) Hg.out.dat (HCR.out.mono Hg.out.sub)).2
   have hCC:∀ o,Calls Tryz.prog 16 #[.agg #[.int .i64 ka,.bool ba,.int .i64 na,.string sa,.slice a4 l4 d4,.slice a5 l5 d5]] (wr.alloc o) (CopyC (wr.alloc o) φk (F r)):=fun o=>
    (HC.out _ _ (wr.alloc o) _ _ _ _ _ _ _ Hr.out (gd_below HG.out HGw.out hkw (hB.alloc hsB o)) (Hg.out.dat.below ((Below.refl _ _).alloc (Nat.le_refl _) _)) (HCR.out.mono Hg.out.sub)).1
   have hnrm:nrmR (F r)=nrmR r:=hb2
   have HCC:=Go.Lib.hid hCC
   have HN:=Go.Lib.hid hnrm
   clear hCC hnrm hb2
   go_wp2_with (first
    |(go_at_call 16;refine (HCC.out _).mono ?_;rintro e w4 ⟨kz,bz,nz,sz,az4,lz4,cz4,az5,lz5,cz5,φ4,rfl,hb4,HG4⟩;obtain⟨hc4,hf4⟩:=bcell hb4;have hown4:=own_below (hown.alloc _) hb4;have hsz4:=hb4.size)
    |(at_builtin;refine wpList_append_own_at _ rfl _ _ 24 rfl w.heap.size 26 i0 (.agg #[.int .i64 0,.bool false,.int .i64 0,.string { data:=#[] },.slice none 0 0,.slice none 0 0]) 6 88 Tryz.underlying24 hi hz0 hz1 hz2 rfl (by decide) _ _ _ rfl (hown4.alloc _) ⟨w4.heap.size,0,none⟩ 1 1 (c6 kz bz nz sz az4 lz4 cz4 az5 lz5 cz5) rfl rfl new_cells (crs_one HG4.out.2) (by unfold maxLen;omega) (by omega) (by simp at hsz4;simp;omega) ?_;intro v' w5 hown5 hgrow5 _ hat5))
   have HI':Hid (CInv w φ rows v' (j+1) w5 (xs++c6 kz bz nz sz az4 lz4 cz4 az5 lz5 cz5)):=CInv.step (by omega) Hg.out Hrv.out Hn.out HV.out Ht.out Hl.out Hr.out HN.out HG4.out.1 HG4.out.2 hgrow5 hat5
   go_roundw
   case rel=>exact⟨j+1,_,by omega,by go_num,hown5,step_below (hB.alloc hsB _) hb4 (Nat.le_refl _) hgrow5 (own_ge hown4),HI'⟩
   case measure=>simp[intOf];omega
  ·have HK:Hid (j=rows.length):=by unfold Hid;omega
   go_wp2
   go_ret
   have h1:=hown
   have h2:=HI.out
   rw[HK.out] at h1 h2
   exact⟨hB,u3,xs,rfl,h1,h2⟩
end Go.Proofs.Wo

namespace Go.Proofs.Wo
open Go.Exo Go.Exo.Wo Go.RowKit
set_option maxRecDepth 100000
set_option linter.all false
variable {k:Nat}{G:World→Prop}
theorem own_same {w w':World}{base base':Nat}{e:TypeId}{v:Value}{n:Nat}{xs:List Value}(h:w.ownsRow base e 6 v n xs)(hb:base'≤base)(hs:∀ g,v.ownBlock=some g→g<w.heap.size→w'.heap[g]? = w.heap[g]?):w'.ownsRow base' e 6 v n xs:=by
 refine⟨h.1,?_⟩
 rcases h.2 with h0|⟨g,cap,cur,rfl,h2,h3,h4⟩
 ·exact .inl h0
 ·exact .inr ⟨g,cap,cur,rfl,Nat.le_trans hb h2,(hs g rfl (Array.getElem?_eq_some_iff.1 h3).1).trans h3,h4⟩
theorem set_cells {W:World}{B:Nat}{c:Array Value}{t:TypeId}{fr:Nat×Nat}(o:Nat)(v:Value)(h:W.heap[B]? = some (.cells c t fr)):(W.setCell ⟨B,o,none⟩ v).heap[B]? = some (.cells (c.setIfInBounds o v) t fr):=by
 obtain⟨hlt,hk⟩:=Array.getElem?_eq_some_iff.1 h
 show (W.heap.modify B _)[B]? = _
 rw[Array.getElem?_eq_getElem (by rw[Array.size_modify];exact hlt),Array.getElem_modify_self,hk]
 rfl
def fin6 (w8:World)(B:Nat)(v0 v1 v2 v3 v4 v5:Value):World:=
 ((((((w8.setCell ⟨B,0,none⟩ v0).setCell ⟨B,1,none⟩ v1).setCell ⟨B,2,none⟩ v2).setCell ⟨B,3,none⟩ v3).setCell ⟨B,4,none⟩ v4).setCell ⟨B,5,none⟩ v5)
section
variable {w8:World}{B:Nat}{v0 v1 v2 v3 v4 v5:Value}
theorem fin6_at {z0 z1 z2 z3 z4 z5:Value}{t:TypeId}(h:w8.heap[B]? = some (.cells #[z0,z1,z2,z3,z4,z5] t (0,0))) :
  (fin6 w8 B v0 v1 v2 v3 v4 v5).heap[B]? = some (.cells #[v0,v1,v2,v3,v4,v5] t (0,0)):=by
 have:=set_cells 5 v5 (set_cells 4 v4 (set_cells 3 v3 (set_cells 2 v2 (set_cells 1 v1 (set_cells 0 v0 h)))))
 simpa[fin6] using this
theorem fin6_other (k:Nat)(h:k≠B):(fin6 w8 B v0 v1 v2 v3 v4 v5).heap[k]? = w8.heap[k]? := by
 unfold fin6
 rw[Below.heap_setCell _ _ _ _ h,Below.heap_setCell _ _ _ _ h,Below.heap_setCell _ _ _ _ h,Below.heap_setCell _ _ _ _ h,Below.heap_setCell _ _ _ _ h,Below.heap_setCell _ _ _ _ h]
theorem fin6_below {w:World}{B0:Nat}(h:Below B0 w w8)(hle:B0≤B):Below B0 w (fin6 w8 B v0 v1 v2 v3 v4 v5):=by
 unfold fin6
 exact (((((h.setCell (p:=⟨B,0,none⟩) hle _).setCell (p:=⟨B,1,none⟩) hle _).setCell (p:=⟨B,2,none⟩) hle _).setCell (p:=⟨B,3,none⟩) hle _).setCell (p:=⟨B,4,none⟩) hle _).setCell (p:=⟨B,5,none⟩) hle _
end
theorem Dat.other {φ:Nat→Nat→Option Value}{w w':World}(h:Dat φ w)(hs:∀ b o v,φ b o=some v→w'.heap[b]? = w.heap[b]?):Dat φ w':=fun b o v hv=>by
 have h1:=hs b o v hv
 have h2:=h b o v hv
 unfold World.cell? at h2 ⊢
 rw[h1];exact h2
def CloneC (w:World)(φ:Nat→Nat→Option Value)(c:Cl)(e:Ending)(w':World):Prop:=
 ∃ a l c' φ',e=.returned (.slice a l c')∧Below w.heap.size w w'∧Hid (Grows w w' φ φ'∧CR (rel φ') (.sl 9) (.slice a l c') c)
theorem clone_c {w:World}{φ:Nat→Nat→Option Value}(hGw:G w)(hφ:Dat φ w){y:Value}{nl:Bool}{ys:List (List Cl)}(hy:CR (rel φ) (.sl 9) y (.sl nl ys))(hp:ys.length*16≤140737488355328) :
  Calls Tryz.prog 36 #[y] w (CloneC w φ (.sl nl ys)):=by
 refine (clone_spec (G:=G) w φ [y] [.sl nl ys] hGw hφ (.one hy .nil) ⟨nl,ys,rfl,hp⟩).mono ?_
 rintro e w' ⟨x,φ',rfl,h1,h2,h3,h4,h5⟩
 have h5':ArgR (rel φ') [.one (.sl 9)] [x] [.sl nl ys]:=h5
 cases h5' with
 |one h6 _=>
  have:∃ a l c',x=.slice a l c':=by cases h6<;>exact⟨_,_,_,rfl⟩
  obtain⟨a,l,c',rfl⟩:=this
  exact⟨a,l,c',φ',rfl,Below.ofExt h4,⟨⟨h1,h2,h3⟩,h6⟩⟩
def CopyO (w:World)(φ:Nat→Nat→Option Value)(k:Int)(b:Bool)(n:Int)(s:ByteArray)(nl:Bool)(ys rs:List (List Cl))(e:Ending)(w':World):Prop:=
 ∃ a4 l4 c4 v xs φ' out,e=.returned (.agg #[.int .i64 k,.bool b,.int .i64 n,.string s,.slice a4 l4 c4,v])∧Below w.heap.size w w'∧w'.ownsRow w.heap.size 26 6 v rs.length xs∧
  Hid (Grows w w' φ φ'∧CR (rel φ') (.sl 9) (.slice a4 l4 c4) (.sl nl ys)∧RowsV (rel φ') xs out∧(∀ b o u,φ' b o=some u→v.ownBlock≠some b)∧nrmRs out=nrmRs rs∧out.length=rs.length)
theorem crs_parts {F:Nat→Nat→Value→Prop}{k:Int}{b:Bool}{n:Int}{s:ByteArray}{a4:Option Addr}{l4 c4:Nat}{a5:Option Addr}{l5 c5:Nat}{r:List Cl}(h:CRs F vK (c6 k b n s a4 l4 c4 a5 l5 c5) r) :
  ∃ nl ys ml rs,r=[.int k,.bool b,.int n,.str s.data.toList,.sl nl ys,.sl ml rs]∧CR F (.sl 9) (.slice a4 l4 c4) (.sl nl ys)∧CR F (.sl 26) (.slice a5 l5 c5) (.sl ml rs)∧CR F (.int .i64) (.int .i64 k) (.int k)∧CR F (.int .i64) (.int .i64 n) (.int n)∧s.size≤maxLen:=by
 have sl:∀ {e:TypeId}{v:Value}{c:Cl},CR F (.sl e) v c→∃ nl rows,c=.sl nl rows:=fun h=>by cases h<;>exact⟨_,_,rfl⟩
 cases h with|cons h0 h=>cases h with|cons h1 h=>cases h with|cons h2 h=>cases h with|cons h3 h=>cases h with|cons h4 h=>cases h with|cons h5 h=>
  obtain⟨_,_,rfl⟩:=sl h4
  obtain⟨_,_,rfl⟩:=sl h5
  cases h
  cases h3 with
  |str _ hs=>
   cases h1
   have g0:=h0
   have g2:=h2
   cases h0
   cases h2
   exact⟨_,_,_,_,rfl,h4,h5,g0,g2,hs⟩
theorem fin6_results16 {w8:World}{B:Nat}{v0 v1 v2 v3 v4 v5 z0 z1 z2 z3 z4 z5:Value}{tmps:Array Value}(h:w8.heap[B]? = some (.cells #[z0,z1,z2,z3,z4,z5] 26 (0,0)))(ht:tmps[2]? = some (.pointer (some ⟨B,0,none⟩))) :
  (results Tryz.f16 tmps).run Tryz.prog (fin6 w8 B v0 v1 v2 v3 v4 v5)=.ok (.agg #[v0,v1,v2,v3,v4,v5]) (fin6 w8 B v0 v1 v2 v3 v4 v5):=by
 have h6:=fin6_at (v0:=v0) (v1:=v1) (v2:=v2) (v3:=v3) (v4:=v4) (v5:=v5) h
 have q0:=cells_cell (o:=0) h6 rfl
 have q1:=cells_cell (o:=1) h6 rfl
 have q2:=cells_cell (o:=2) h6 rfl
 have q3:=cells_cell (o:=3) h6 rfl
 have q4:=cells_cell (o:=4) h6 rfl
 have q5:=cells_cell (o:=5) h6 rfl
 simp[results,Tryz.results16,go_sem,ht,q0,q1,q2,q3,q4,q5]
theorem own_slice {w:World}{base:Nat}{e:TypeId}{v:Value}{n:Nat}{xs:List Value}(h:w.ownsRow base e 6 v n xs):∃ a l c,v=.slice a l c:=by
 rcases h.2 with⟨rfl,_⟩|⟨g,cap,cur,rfl,_⟩
 ·exact⟨_,_,_,rfl⟩
 ·exact⟨_,_,_,rfl⟩
theorem copy_end {w W2 w1 w3:World}{B:Nat}{φ φ1 φ3:Nat→Nat→Option Value}{ka:Int}{ba:Bool}{na:Int}{sa:ByteArray}{a:Option Addr}{l c':Nat}{v:Value}{nl:Bool}{ys rs out:List (List Cl)}{xs:List Value}{u4 u5 v0 v1 v2 v3 v4 v5:Value}
  (hB:B=w.heap.size)(hB0:Below w.heap.size w W2)(hsz:W2.heap.size=w.heap.size+2)(hφ:Dat φ w)(hb1:Below W2.heap.size W2 w1)(h1:Grows W2 w1 φ φ1)(hc:CR (rel φ1) (.sl 9) (.slice a l c') (.sl nl ys))
  (hb3:Below (w1.setCell ⟨B,4,none⟩ u4).heap.size (w1.setCell ⟨B,4,none⟩ u4) w3)(hown:w3.ownsRow (w1.setCell ⟨B,4,none⟩ u4).heap.size 26 6 v rs.length xs)(hg:Grows (w1.setCell ⟨B,4,none⟩ u4) w3 φ1 φ3)(hr:RowsV (rel φ3) xs out)
  (hn:∀ b o u,φ3 b o=some u→v.ownBlock≠some b)(hnrm:nrmRs out=nrmRs rs)(hlen:out.length=rs.length) :
  CopyO w φ ka ba na sa nl ys rs (.returned (.agg #[.int .i64 ka,.bool ba,.int .i64 na,.string sa,.slice a l c',v])) (fin6 (w3.setCell ⟨B,5,none⟩ u5) (B+1) v0 v1 v2 v3 v4 v5):=by
 subst hB
 have s1:(w1.setCell ⟨w.heap.size,4,none⟩ u4).heap.size=w1.heap.size:=by simp[World.setCell]
 have t1:=hb1.size
 have t3:=hb3.size
 rw[s1] at t3
 have hB3:Below w.heap.size w w3:=((hB0.trans (hb1.mono (by omega))).setCell (p:=⟨w.heap.size,4,none⟩) (Nat.le_refl _) _).trans (hb3.mono (by omega))
 have hfar:∀ k,k≠w.heap.size→k≠w.heap.size+1→(fin6 (w3.setCell ⟨w.heap.size,5,none⟩ u5) (w.heap.size+1) v0 v1 v2 v3 v4 v5).heap[k]? = w3.heap[k]? := fun k h1 h2=>by
  rw[fin6_other k h2,Below.heap_setCell _ _ _ _ (by show k≠w.heap.size;exact h1)]
 have hno:∀ b o u,φ3 b o=some u→b≠w.heap.size∧b≠w.heap.size+1:=fun b o u h=>by
  constructor
  all_goals
   intro e
   have h2:=hg.new b o u h (by omega)
   have h3:=h1.new b o u h2 (by omega)
   have:=hφ.lt h3
   omega
 refine⟨a,l,c',v,xs,φ3,out,rfl,fin6_below (hB3.setCell (p:=⟨w.heap.size,5,none⟩) (Nat.le_refl _) _) (by omega),own_same hown (by omega) fun g hg' _=>?_,⟨⟨fun b o u h=>hg.sub _ _ _ (h1.sub _ _ _ h),hg.dat.other fun b o u h=>hfar b (hno b o u h).1 (hno b o u h).2,fun b o u h hb=>?_⟩,hc.mono hg.sub,hr,hn,hnrm,hlen⟩⟩
 ·have:(w1.setCell ⟨w.heap.size,4,none⟩ u4).heap.size≤g:=by
   rcases hown.2 with⟨rfl,_⟩|⟨g',cap,cur,rfl,h2,_⟩
   ·cases hg'
   ·cases hg';exact h2
  exact hfar g (by omega) (by omega)
 ·exact h1.new b o u (hg.new b o u h (by omega)) (by omega)
set_option maxHeartbeats 4000000 in
theorem copy_own {m:Nat}{F:List Cl→List Cl}(hG:Gd0 k G)(hS:Go.Exo.Spec Tryz.prog G 16 [vA] (.one vA) (copyPre m) F)(hF:∀ c,copyPost c (F c)){w:World}{φ:Nat→Nat→Option Value}(hGw:G w)(hφ:Dat φ w)
  {ka:Int}{ba:Bool}{na:Int}{sa:ByteArray}{a4:Option Addr}{l4 c4:Nat}{a5:Option Addr}{l5 c5:Nat}{nl:Bool}{ys:List (List Cl)}{ml:Bool}{rs:List (List Cl)}
  (h4:CR (rel φ) (.sl 9) (.slice a4 l4 c4) (.sl nl ys))(h5:CR (rel φ) (.sl 26) (.slice a5 l5 c5) (.sl ml rs))(hy:ys.length*16≤140737488355328)(hp:copiesPre (m+1) [.sl ml rs]) :
  Calls Tryz.prog 16 #[.agg #[.int .i64 ka,.bool ba,.int .i64 na,.string sa,.slice a4 l4 c4,.slice a5 l5 c5]] w (CopyO w φ ka ba na sa nl ys rs):=by
 have hkw:=hG.size w hGw
 have hB0:Below w.heap.size w ((w.alloc (.cells #[.int .i64 ka,.bool ba,.int .i64 na,.string sa,.slice a4 l4 c4,.slice a5 l5 c5] 26)).alloc (.cells #[.int .i64 0,.bool false,.int .i64 0,.string { data:=#[] },.slice none 0 0,.slice none 0 0] 26)):=((Below.refl _ w).alloc (Nat.le_refl _) _).alloc (by simp) _
 have g0:((w.alloc (.cells #[.int .i64 ka,.bool ba,.int .i64 na,.string sa,.slice a4 l4 c4,.slice a5 l5 c5] 26)).alloc (.cells #[.int .i64 0,.bool false,.int .i64 0,.string { data:=#[] },.slice none 0 0,.slice none 0 0] 26)).heap[w.heap.size]? = some (.cells #[.int .i64 ka,.bool ba,.int .i64 na,.string sa,.slice a4 l4 c4,.slice a5 l5 c5] 26 (0,0)):=(Below.heap_alloc _ _ _ (by simp)).trans (cells_new w _ 26)
 have g1:((w.alloc (.cells #[.int .i64 ka,.bool ba,.int .i64 na,.string sa,.slice a4 l4 c4,.slice a5 l5 c5] 26)).alloc (.cells #[.int .i64 0,.bool false,.int .i64 0,.string { data:=#[] },.slice none 0 0,.slice none 0 0] 26)).heap[w.heap.size+1]? = some (.cells #[.int .i64 0,.bool false,.int .i64 0,.string { data:=#[] },.slice none 0 0,.slice none 0 0] 26 (0,0)):=by
  have:=cells_new (w.alloc (.cells #[.int .i64 ka,.bool ba,.int .i64 na,.string sa,.slice a4 l4 c4,.slice a5 l5 c5] 26)) #[.int .i64 0,.bool false,.int .i64 0,.string { data:=#[] },.slice none 0 0,.slice none 0 0] 26
  rwa [World.size_alloc] at this
 have hsz:((w.alloc (.cells #[.int .i64 ka,.bool ba,.int .i64 na,.string sa,.slice a4 l4 c4,.slice a5 l5 c5] 26)).alloc (.cells #[.int .i64 0,.bool false,.int .i64 0,.string { data:=#[] },.slice none 0 0,.slice none 0 0] 26)).heap.size=w.heap.size+2:=by simp
 go_enter Tryz.func16,Tryz.ntmps16
 go_wp2_with fail
 obtain⟨W2,hW2⟩:∃ W2,(w.alloc (.cells #[.int .i64 ka,.bool ba,.int .i64 na,.string sa,.slice a4 l4 c4,.slice a5 l5 c5] 26)).alloc (.cells #[.int .i64 0,.bool false,.int .i64 0,.string { data:=#[] },.slice none 0 0,.slice none 0 0] 26)=W2:=⟨_,rfl⟩
 rw[hW2] at g0 g1 hsz hB0 ⊢
 clear hW2
 refine (clone_c (gd_below hG hGw hkw hB0) (hφ.below hB0) h4 hy).mono ?_
 rintro e w1 ⟨a,l,c',φ1,rfl,hb1,H1⟩
 have p0:=(hb1.block w.heap.size (by omega)).trans g0
 have p1:=(hb1.block (w.heap.size+1) (by omega)).trans g1
 have x4:=cells_cell (o:=4) p0 rfl
 have x5:=cells_cell (o:=5) p0 rfl
 have xf:=fun o=>cells_frozen (o:=o) p0
 have P0:=Go.Lib.hid p0
 have P1:=Go.Lib.hid p1
 have HG:=Go.Lib.hid hG
 have HGw:=Go.Lib.hid hGw
 have Hφ:=Go.Lib.hid hφ
 have H4:=Go.Lib.hid h4
 have H5:=Go.Lib.hid h5
 have HB0:=Go.Lib.hid hB0
 have Hb1:=Go.Lib.hid hb1
 have HP:=Go.Lib.hid hp
 have HS:=Go.Lib.hid hS
 have HF:=Go.Lib.hid hF
 have HZ:=Go.Lib.hid hsz
 have s1:=hb1.size
 clear p0 p1 hG hGw hφ h4 h5 hB0 hb1 hp hS hF g0 g1 hsz
 go_wp2_with fail
 have hD3:Dat φ1 (w1.setCell ⟨w.heap.size,4,none⟩ (.slice a l c')):=H1.out.1.dat.other fun b o u h=>Below.heap_setCell _ _ _ _ (by
  show b≠w.heap.size
  intro e
  have h3:=H1.out.1.new b o u h (by have:=HZ.out;omega)
  have:=Hφ.out.lt h3
  omega)
 have hB3:Below w.heap.size w (w1.setCell ⟨w.heap.size,4,none⟩ (.slice a l c')):=(HB0.out.trans (Hb1.out.mono (by have:=HZ.out;omega))).setCell (p:=⟨w.heap.size,4,none⟩) (Nat.le_refl _) _
 refine (copies_own HG.out HS.out HF.out (gd_below HG.out HGw.out hkw hB3) hD3 (H5.out.mono H1.out.1.sub) HP.out).mono ?_
 rintro e w3 ⟨hb3,v,xs,rfl,hown,φ3,out,hg3,hr3,hn3,hnrm,hlen⟩
 rw[List.take_length] at hnrm
 obtain⟨av,lv,cv,rfl⟩:=own_slice hown
 have s3:=hb3.size
 have z1:(w1.setCell ⟨w.heap.size,4,none⟩ (.slice a l c')).heap.size=w1.heap.size:=by simp[World.setCell]
 rw[z1] at s3
 have p0:=(hb3.block w.heap.size (by rw[z1];have:=HZ.out;omega)).trans (set_cells 4 (.slice a l c') P0.out)
 have p1:=(hb3.block (w.heap.size+1) (by rw[z1];have:=HZ.out;omega)).trans ((Below.heap_setCell w1 ⟨w.heap.size,4,none⟩ (.slice a l c') (w.heap.size+1) (by show w.heap.size+1≠w.heap.size;omega)).trans P1.out)
 have y0:=cells_cell (o:=0) p0 rfl
 have y1:=cells_cell (o:=1) p0 rfl
 have y2:=cells_cell (o:=2) p0 rfl
 have y3:=cells_cell (o:=3) p0 rfl
 have y4:=cells_cell (o:=4) p0 rfl
 have y5:=cells_cell (o:=5) p0 rfl
 have yf:=fun o=>cells_frozen (o:=o) p0
 have r0:=cells_cell (o:=0) p1 rfl
 have r1:=cells_cell (o:=1) p1 rfl
 have r2:=cells_cell (o:=2) p1 rfl
 have r3:=cells_cell (o:=3) p1 rfl
 have r4:=cells_cell (o:=4) p1 rfl
 have r5:=cells_cell (o:=5) p1 rfl
 have rf:=fun o=>cells_frozen (o:=o) p1
 have hE:=fun u5 v0 v1 v2 v3 v4 v5=>copy_end (ka:=ka) (ba:=ba) (na:=na) (sa:=sa) (u5:=u5) (v0:=v0) (v1:=v1) (v2:=v2) (v3:=v3) (v4:=v4) (v5:=v5) rfl HB0.out HZ.out Hφ.out Hb1.out H1.out.1 H1.out.2 hb3 hown hg3 hr3 hn3 hnrm hlen
 have HE:=Go.Lib.hid hE
 have Q1:=Go.Lib.hid p1
 clear hE p0 p1 P0 P1 hown hg3 hr3 hn3 hnrm hlen hb3 hD3 hB3 x4 x5 xf z1
 go_wp2
 have q1:(w3.setCell ⟨w.heap.size,5,none⟩ (.slice av lv cv)).heap[w.heap.size+1]? = _:=(Below.heap_setCell w3 ⟨w.heap.size,5,none⟩ _ (w.heap.size+1) (by show w.heap.size+1≠w.heap.size;omega)).trans Q1.out
 exact bodyPost_ret (fin6_results16 q1 rfl) rfl (HE.out _ _ _ _ _ _ _)
end Go.Proofs.Wo

namespace Go.Proofs.Wo
open Go.Exo Go.Exo.Wo Go.RowKit
set_option maxRecDepth 100000
set_option linter.all false
variable {k:Nat}{G:World→Prop}
theorem nrm6_inv {a:List Cl}{k:Int}{b:Bool}{n:Int}{s:List UInt8}{nl:Bool}{ys:List (List Cl)}{ml:Bool}{rs:List (List Cl)}(h:nrmR a=nrmR [.int k,.bool b,.int n,.str s,.sl nl ys,.sl ml rs]) :
  ∃ nl' ys' ml' rs',a=[.int k,.bool b,.int n,.str s,.sl nl' ys',.sl ml' rs']∧nrmRs ys'=nrmRs ys∧nrmRs rs'=nrmRs rs:=by
 rw[nrmR_eq] at h
 match a,h with
 |[x0,x1,x2,x3,x4,x5],h=>
  simp only[List.map_cons,List.map_nil,nrmR,List.cons.injEq,and_true] at h
  obtain⟨h0,h1,h2,h3,h4,h5⟩:=h
  cases x0<;>simp[nrm] at h0
  cases x1<;>simp[nrm] at h1
  cases x2<;>simp[nrm] at h2
  cases x3<;>simp[nrm] at h3
  cases x4<;>simp[nrm] at h4
  cases x5<;>simp[nrm] at h5
  subst h0 h1 h2 h3
  exact⟨_,_,_,_,rfl,h4,h5⟩
 |[],h=>simp[nrmR] at h
 |[_],h=>simp[nrmR] at h
 |[_,_],h=>simp[nrmR] at h
 |[_,_,_],h=>simp[nrmR] at h
 |[_,_,_,_],h=>simp[nrmR] at h
 |[_,_,_,_,_],h=>simp[nrmR] at h
 |_::_::_::_::_::_::_::_,h=>simp[nrmR] at h
theorem wor_nrm {N R:List (List Cl)}{a b:List Cl}(h:WoR N R a b):∀ {a':List Cl},nrmR a'=nrmR a→WoR N R a' b:=by
 induction h with
 |gone hg he=>
  intro a' e
  obtain⟨nl',ys',ml',rs',rfl,_,_⟩:=nrm6_inv e
  exact .gone hg he
 |kept hg hy hl hr ih=>
  intro a' e
  obtain⟨nl',ys',ml',rs',rfl,e1,e2⟩:=nrm6_inv e
  have hlen:=nrm_len e2
  refine .kept hg (hy.trans e1.symm) (by omega) fun i r r' h1 h2=>?_
  have hi:=(List.getElem?_eq_some_iff.1 h2).1
  have h3:=List.getElem?_eq_getElem (l:=_) (i:=i) (show i<_ by rw[← hl];exact hi)
  exact ih i _ _ h3 h2 (nrmRs_get e2 h1 h3)
mutual
theorem size_nrm:∀ c:Cl,SizeOf.sizeOf (nrm c)=SizeOf.sizeOf c
 |.sl nl rows=>by
  have h:=size_nrmRs rows
  cases nl<;>simp[nrm,h]
 |.int _|.bool _|.str _|.raw _|.no=>rfl
theorem size_nrmR:∀ l:List Cl,SizeOf.sizeOf (nrmR l)=SizeOf.sizeOf l
 |[]=>rfl
 |c::r=>by simp[nrmR,size_nrm c,size_nrmR r]
theorem size_nrmRs:∀ l:List (List Cl),SizeOf.sizeOf (nrmRs l)=SizeOf.sizeOf l
 |[]=>rfl
 |c::r=>by simp[nrmRs,size_nrmR c,size_nrmRs r]
end
theorem bw_nrm {k:Kd}{c:Cl}(h:Bw k c):∀ c',nrm c'=nrm c→Bw k c':=by
 induction h with
 |sc h=>intro c' _;exact .sc h
 |@sl e nl rows h1 _ ih=>
  intro c' e'
  cases c' with
  |sl nl' rows'=>
   simp only[nrm,Cl.sl.injEq,true_and] at e'
   have hlen:=nrm_len e'
   refine .sl (by rw[hlen];exact h1) fun r' hr' j c2 k hc hk=>?_
   obtain⟨i,hi,hri⟩:=List.getElem_of_mem hr'
   have h3:rows'[i]? = some r':=by rw[List.getElem?_eq_getElem hi,hri]
   have h4:=List.getElem?_eq_getElem (l:=rows) (i:=i) (by omega)
   have h5:=nrmRs_get e' h3 h4
   rw[nrmR_eq,nrmR_eq] at h5
   have h6:=congrArg (fun l=>l[j]?) h5
   simp only[List.getElem?_map,hc,Option.map_some] at h6
   cases h7:rows[i][j]? with
   |none=>rw[h7] at h6;cases h6
   |some c3=>
    rw[h7] at h6
    simp only[Option.map_some,Option.some.injEq] at h6
    exact ih _ (List.getElem_mem _) j c3 k h7 hk c2 h6
  |_=>simp[nrm] at e'
theorem bws_nrm {r r':List Cl}(h:Bws vK r)(e:nrmR r'=nrmR r):Bws vK r':=fun j c k hc hk=>by
 rw[nrmR_eq,nrmR_eq] at e
 have h6:=congrArg (fun l=>l[j]?) e
 simp only[List.getElem?_map,hc,Option.map_some] at h6
 cases h7:r[j]? with
 |none=>rw[h7] at h6;cases h6
 |some c3=>
  rw[h7] at h6
  simp only[Option.map_some,Option.some.injEq] at h6
  exact bw_nrm (h j c3 k h7 hk) c h6
def WalkC (w:World)(φ:Nat→Nat→Option Value)(N R:List (List Cl))(r:List Cl)(e:Ending)(w':World):Prop:=
 ∃ k b n s a4 l4 c4 a5 l5 c5 φ' d,e=.returned (.agg #[.int .i64 k,.bool b,.int .i64 n,.string s,.slice a4 l4 c4,.slice a5 l5 c5])∧Below w.heap.size w w'∧Hid (Grows w w' φ φ'∧CRs (rel φ') vK (c6 k b n s a4 l4 c4 a5 l5 c5) d∧WoR N R r d)
structure Caught (w:World)(φ:Nat→Nat→Option Value)(Bn Br Bw:Nat)(aN:Option Addr)(lN cN:Nat)(aR:Option Addr)(lR cR:Nat)(nn:Bool)(N:List (List Cl))(rn:Bool)(R:List (List Cl)):Prop where
 n:w.heap[Bn]? = some (.cells #[.slice aN lN cN] 27 (0,0))
 r:w.heap[Br]? = some (.cells #[.slice aR lR cR] 27 (0,0))
 w:w.heap[Bw]? = some (.cells #[.func (.func 14) #[] #[.pointer (some ⟨Bn,0,none⟩),.pointer (some ⟨Br,0,none⟩),.pointer (some ⟨Bw,0,none⟩)]] 53 (0,0))
 cn:CR (rel φ) (.sl 2) (.slice aN lN cN) (.sl nn N)
 cr:CR (rel φ) (.sl 2) (.slice aR lR cR) (.sl rn R)
theorem Caught.below {w w':World}{φ φ':Nat→Nat→Option Value}{Bn Br Bw:Nat}{aN:Option Addr}{lN cN:Nat}{aR:Option Addr}{lR cR:Nat}{nn:Bool}{N:List (List Cl)}{rn:Bool}{R:List (List Cl)}
  (h:Caught w φ Bn Br Bw aN lN cN aR lR cR nn N rn R)(hb:Below w.heap.size w w')(hs:∀ b o v,φ b o=some v→φ' b o=some v):Caught w' φ' Bn Br Bw aN lN cN aR lR cR nn N rn R:=
 ⟨(hb.block _ (Array.getElem?_eq_some_iff.1 h.n).1).trans h.n,(hb.block _ (Array.getElem?_eq_some_iff.1 h.r).1).trans h.r,(hb.block _ (Array.getElem?_eq_some_iff.1 h.w).1).trans h.w,h.cn.mono hs,h.cr.mono hs⟩
def ContC (w:World)(b:Bool)(e:Ending)(w':World):Prop:=e=.returned (.bool b)∧Below w.heap.size w w'
theorem cont_c (hG:Gd0 k G)(hk0:0<k)(hsz:Tryz.prog.globals.size≤k){w:World}{φ:Nat→Nat→Option Value}(hGw:G w)(hφ:Dat φ w){y:Value}{nl:Bool}{N:List (List Cl)}(hy:CR (rel φ) (.sl 2) y (.sl nl N)){n:Int}(hn:CR (rel φ) iK (.int .i64 n) (.int n)) :
  Calls Tryz.prog 15 #[y,.int .i64 n] w (ContC w (hasN N n)):=by
 refine (cont_spec hG hk0 hsz w φ [y,.int .i64 n] [.sl nl N,.int n] hGw hφ (.one hy (.one hn .nil)) trivial).mono ?_
 rintro e w' ⟨x,φ',rfl,h1,h2,h3,h4,h5⟩
 have h5':ArgR (rel φ') [.one .bool] [x] (hasF [.sl nl N,.int n]):=h5
 have e1:hasF [.sl nl N,.int n]=[.bool (hasN N n)]:=rfl
 rw[e1] at h5'
 cases h5' with
 |one h6 _=>cases h6;exact⟨rfl,Below.ofExt h4⟩
def LInv (w W2:World)(φ:Nat→Nat→Option Value)(N R:List (List Cl))(out:List (List Cl))(v:Value)(n:Nat)(Bo Bq:Nat)(box zero:Array Value)(z:Value)(cz:Cl)(j:Nat)(wr:World):Prop:=
 ∃ xs cur φk,wr.ownsRow W2.heap.size 26 6 v n xs∧RowsV (rel φk) xs cur∧cur.length=n∧(∀ i,j≤i→cur[i]? = out[i]?)∧(∀ i r r',i<j→out[i]? = some r→cur[i]? = some r'→WoR N R r r')∧
  Grows W2 wr φ φk∧(∀ b o u,φk b o=some u→v.ownBlock≠some b)∧Below w.heap.size w wr∧wr.heap[Bo]? = some (.cells box 26 (0,0))∧wr.heap[Bq]? = some (.cells zero 26 (0,0))∧CR (rel φk) (.sl 9) z cz∧W2.heap.size≤wr.heap.size
theorem LInv.start {w W2 w3:World}{φ φ3:Nat→Nat→Option Value}{N R out:List (List Cl)}{v:Value}{n Bq:Nat}{box zero:Array Value}{z:Value}{cz:Cl}{xs:List Value}
  (hB0:Below w.heap.size w W2)(hb3:Below W2.heap.size W2 w3)(hown:w3.ownsRow W2.heap.size 26 6 v n xs)(hg:Grows W2 w3 φ φ3)(hz:CR (rel φ3) (.sl 9) z cz)(hr:RowsV (rel φ3) xs out)(hn:∀ b o u,φ3 b o=some u→v.ownBlock≠some b)(hl:out.length=n)
  (hq:w3.heap[Bq]? = some (.cells zero 26 (0,0))):LInv w W2 φ N R out v n w3.heap.size Bq box zero z cz 0 (w3.alloc (.cells box 26)):=by
 have hB:Below w3.heap.size w3 (w3.alloc (.cells box 26)):=(Below.refl _ _).alloc (Nat.le_refl _) _
 have h0:=hB0.size
 have h3:=hb3.size
 exact⟨xs,out,φ3,own_below hown hB,hr,hl,fun _ _=>rfl,fun i _ _ h=>by omega,hg.below hB,hn,(hB0.trans (hb3.mono h0)).trans (hB.mono (by omega)),cells_new w3 box 26,(hB.block Bq (Array.getElem?_eq_some_iff.1 hq).1).trans hq,hz,by simp;omega⟩
def Sees (W:World)(Bo Bw g o:Nat)(sl fn y0 y1 y2 y3 y4 y5:Value):Prop:=
 W.cell? ⟨Bo,5,none⟩=some sl∧W.cell? ⟨Bw,0,none⟩=some fn∧W.cell? ⟨g,o,none⟩=some y0∧W.cell? ⟨g,o+1,none⟩=some y1∧W.cell? ⟨g,o+2,none⟩=some y2∧W.cell? ⟨g,o+3,none⟩=some y3∧W.cell? ⟨g,o+4,none⟩=some y4∧W.cell? ⟨g,o+5,none⟩=some y5∧(∀ o,W.frozen? ⟨g,o,none⟩=false)
theorem own_set {w:World}{base:Nat}{e:TypeId}{g n c:Nat}{xs:List Value}(h:w.ownsRow base e 6 (.slice (some ⟨g,0,none⟩) n c) n xs)(o:Nat)(y:Value):(w.setCell ⟨g,o,none⟩ y).ownsRow base e 6 (.slice (some ⟨g,0,none⟩) n c) n (xs.set o y):=by
 refine⟨by simp[h.1],?_⟩
 rcases h.2 with⟨h0,_⟩|⟨g',cap,cur,hv,h2,h3,h4,h5,h6,h7⟩
 ·cases h0
 ·cases hv
  refine .inr ⟨g,c,cur.setIfInBounds o y,rfl,h2,set_cells o y h3,h4,h5,by simp[h6],?_⟩
  rw[Array.toList_setIfInBounds,List.take_set,h7]
def set6 (W:World)(g o:Nat)(v0 v1 v2 v3 v4 v5:Value):World:=((((((W.setCell ⟨g,o,none⟩ v0).setCell ⟨g,o+1,none⟩ v1).setCell ⟨g,o+2,none⟩ v2).setCell ⟨g,o+3,none⟩ v3).setCell ⟨g,o+4,none⟩ v4).setCell ⟨g,o+5,none⟩ v5)
theorem set6_other {W:World}{g o:Nat}{v0 v1 v2 v3 v4 v5:Value}(k:Nat)(h:k≠g):(set6 W g o v0 v1 v2 v3 v4 v5).heap[k]? = W.heap[k]? := by
 unfold set6
 rw[Below.heap_setCell _ _ _ _ h,Below.heap_setCell _ _ _ _ h,Below.heap_setCell _ _ _ _ h,Below.heap_setCell _ _ _ _ h,Below.heap_setCell _ _ _ _ h,Below.heap_setCell _ _ _ _ h]
theorem set6_size {W:World}{g o:Nat}{v0 v1 v2 v3 v4 v5:Value}:(set6 W g o v0 v1 v2 v3 v4 v5).heap.size=W.heap.size:=by simp[set6,World.setCell]
theorem set6_below {w W:World}{B g o:Nat}{v0 v1 v2 v3 v4 v5:Value}(h:Below B w W)(hg:B≤g):Below B w (set6 W g o v0 v1 v2 v3 v4 v5):=
 (((((h.setCell (p:=⟨g,o,none⟩) hg _).setCell (p:=⟨g,o+1,none⟩) hg _).setCell (p:=⟨g,o+2,none⟩) hg _).setCell (p:=⟨g,o+3,none⟩) hg _).setCell (p:=⟨g,o+4,none⟩) hg _).setCell (p:=⟨g,o+5,none⟩) hg _
theorem LInv.step {w W2 wr w':World}{φ φk φ4:Nat→Nat→Option Value}{N R out cur:List (List Cl)}{g n c Bo Bq j:Nat}{box zero:Array Value}{z:Value}{cz:Cl}{xs:List Value}{r d:List Cl}{v0 v1 v2 v3 v4 v5:Value}
  (hww:w.heap.size≤W2.heap.size)(hq2:Bq<W2.heap.size)(hgo:g≠Bo)(hown:wr.ownsRow W2.heap.size 26 6 (.slice (some ⟨g,0,none⟩) n c) n xs)(hrv:RowsV (rel φk) xs cur)(hcl:cur.length=n)(hsame:∀ i,j≤i→cur[i]? = out[i]?)
  (hdone:∀ i r r',i<j→out[i]? = some r→cur[i]? = some r'→WoR N R r r')(hg:Grows W2 wr φ φk)(hn:∀ b o u,φk b o=some u→(Value.slice (some ⟨g,0,none⟩) n c).ownBlock≠some b)(hB:Below w.heap.size w wr)
  (hbo:wr.heap[Bo]? = some (.cells box 26 (0,0)))(hbq:wr.heap[Bq]? = some (.cells zero 26 (0,0)))(hz:CR (rel φk) (.sl 9) z cz)(hsz:W2.heap.size≤wr.heap.size)(hr:cur[j]? = some r)(hgb:W2.heap.size≤g)(hgl:g<wr.heap.size)
  (hb:Below wr.drew.heap.size wr.drew w')(h4:Grows wr.drew w' φk φ4)(hc:CRs (rel φ4) vK [v0,v1,v2,v3,v4,v5] d)(hw:WoR N R r d) :
  LInv w W2 φ N R out (.slice (some ⟨g,0,none⟩) n c) n Bo Bq box zero z cz (j+1) (set6 w' g (j*6) v0 v1 v2 v3 v4 v5):=by
 have hb':Below wr.heap.size wr w':=⟨hb.os,hb.tape,hb.output,hb.size,hb.block⟩
 have h4':Grows wr w' φk φ4:=⟨h4.sub,h4.dat,h4.new⟩
 have hs':=hb'.size
 have hjl:j<cur.length:=(List.getElem?_eq_some_iff.1 hr).1
 have hno:∀ b o u,φ4 b o=some u→b≠g:=fun b o u h e=>by
  subst e
  exact hn _ _ _ (h4'.new _ _ _ h hgl) rfl
 have hd:Dat φ4 (set6 w' g (j*6) v0 v1 v2 v3 v4 v5):=h4'.dat.other fun b o u h=>set6_other b (hno b o u h)
 have hg2:=hg.trans h4' hsz
 have hown':=own_below hown hb'
 refine⟨_,cur.set j d,φ4,own_set (own_set (own_set (own_set (own_set (own_set hown' _ v0) _ v1) _ v2) _ v3) _ v4) _ v5,(hrv.mono h4'.sub).set hc hjl,by simp[hcl],fun i hi=>?_,fun i r0 r' hi h1 h2=>?_,⟨hg2.sub,hd,hg2.new⟩,fun b o u h e=>?_,set6_below (hB.trans (hb'.mono (by omega))) (by omega),(set6_other Bo (fun e=>hgo e.symm)).trans ((hb'.block Bo (Array.getElem?_eq_some_iff.1 hbo).1).trans hbo),(set6_other Bq (by omega)).trans ((hb'.block Bq (by omega)).trans hbq),hz.mono h4'.sub,by rw[set6_size];omega⟩
 ·rw[List.getElem?_set_ne (by omega)];exact hsame i (by omega)
 ·by_cases e:i=j
  ·subst e
   rw[← hsame i (Nat.le_refl _),hr] at h1
   rw[List.getElem?_set_self hjl] at h2
   cases h1;cases h2
   exact hw
  ·rw[List.getElem?_set_ne (by omega)] at h2
   exact hdone i r0 r' (by omega) h1 h2
 ·cases e;exact hno _ _ _ h rfl
theorem fin6_results14 {w8:World}{B:Nat}{v0 v1 v2 v3 v4 v5 z0 z1 z2 z3 z4 z5:Value}{tmps:Array Value}(h:w8.heap[B]? = some (.cells #[z0,z1,z2,z3,z4,z5] 26 (0,0)))(ht:tmps[5]? = some (.pointer (some ⟨B,0,none⟩))) :
  (results Tryz.f14 tmps).run Tryz.prog (fin6 w8 B v0 v1 v2 v3 v4 v5)=.ok (.agg #[v0,v1,v2,v3,v4,v5]) (fin6 w8 B v0 v1 v2 v3 v4 v5):=by
 have h6:=fin6_at (v0:=v0) (v1:=v1) (v2:=v2) (v3:=v3) (v4:=v4) (v5:=v5) h
 have q0:=cells_cell (o:=0) h6 rfl
 have q1:=cells_cell (o:=1) h6 rfl
 have q2:=cells_cell (o:=2) h6 rfl
 have q3:=cells_cell (o:=3) h6 rfl
 have q4:=cells_cell (o:=4) h6 rfl
 have q5:=cells_cell (o:=5) h6 rfl
 simp[results,Tryz.results14,go_sem,ht,q0,q1,q2,q3,q4,q5]
theorem walk_end {w W2 wr:World}{φ:Nat→Nat→Option Value}{N R out:List (List Cl)}{av:Option Addr}{n cv Bo Bq:Nat}{box zero:Array Value}{ka:Int}{ba:Bool}{na:Int}{sa:ByteArray}{a4:Option Addr}{l4 c4:Nat}{a5:Option Addr}{l5 c5:Nat}{z4:Option Addr}{zl4 zc4:Nat}
  {nl ml:Bool}{ys rs:List (List Cl)}{u0 u1 u2 u3 u4 u5:Value}(hr:CRs (rel φ) vK (c6 ka ba na sa a4 l4 c4 a5 l5 c5) [.int ka,.bool ba,.int na,.str sa.data.toList,.sl nl ys,.sl ml rs])(hgo:goes N R ka na=false)(hnrm:nrmRs out=nrmRs rs)(hol:out.length=n)
  (hφ:Dat φ w)(hww:w.heap.size≤W2.heap.size)(hq1:w.heap.size≤Bq)(hq2:Bq<W2.heap.size)(h:LInv w W2 φ N R out (.slice av n cv) n Bo Bq box zero (.slice z4 zl4 zc4) (.sl nl ys) n wr) :
  WalkC w φ N R [.int ka,.bool ba,.int na,.str sa.data.toList,.sl nl ys,.sl ml rs] (.returned (.agg #[.int .i64 ka,.bool ba,.int .i64 na,.string sa,.slice z4 zl4 zc4,.slice av n cv])) (fin6 wr Bq u0 u1 u2 u3 u4 u5):=by
 obtain⟨xs,cur,φk,hown,hrv,hcl,hsame,hdone,hg,hn,hB,hbo,hbq,hz,hsz⟩:=h
 have hno:∀ b o u,φk b o=some u→b≠Bq:=fun b o u h e=>by
  have:=hφ.lt (hg.new b o u h (by omega));omega
 have hd:Dat φk (fin6 wr Bq u0 u1 u2 u3 u4 u5):=hg.dat.other fun b o u h=>fin6_other b (hno b o u h)
 have hown':(fin6 wr Bq u0 u1 u2 u3 u4 u5).ownsRow W2.heap.size 26 6 (.slice av n cv) cur.length xs:=by
  rw[hcl]
  refine own_same hown (Nat.le_refl _) fun g hg' _=>fin6_other g ?_
  have:W2.heap.size≤g:=own_ge hown g hg'
  omega
 obtain⟨φ',nl',s1,s2,s3,s4⟩:=own_stays hown' hrv hd hn
 obtain⟨nl2,ys2,ml2,rs2,e,hc4,hc5,hci,hcn,hss⟩:=crs_parts hr
 have hsub:∀ b o u,φ b o=some u→φ' b o=some u:=fun b o u h=>s1 _ _ _ (hg.sub _ _ _ h)
 refine⟨ka,ba,na,sa,z4,zl4,zc4,av,n,cv,φ',[.int ka,.bool ba,.int na,.str sa.data.toList,.sl nl ys,.sl nl' cur],rfl,fin6_below hB hq1,⟨⟨hsub,s2,fun b o u h hb=>hg.new b o u (s3 b o u h (by omega)) (by omega)⟩,?_,?_⟩⟩
 ·exact .cons (hci.mono hsub) (.cons (.bool ba) (.cons (hcn.mono hsub) (.cons (.str sa hss) (.cons (hz.mono s1) (.cons s4 .nil)))))
 ·refine wor_nrm (a:=[.int ka,.bool ba,.int na,.str sa.data.toList,.sl nl ys,.sl ml out]) (.kept hgo rfl (by omega) fun i r r' h1 h2=>hdone i r r' ?_ h1 h2) ?_
  ·have:=(List.getElem?_eq_some_iff.1 h2).1;omega
  ·rw[nrm6];exact⟨rfl,rfl,rfl,rfl,rfl,hnrm.symm⟩
set_option maxHeartbeats 4000000 in
theorem walk_own {m:Nat}{F:List Cl→List Cl}(hG:Gd0 k G)(hk0:0<k)(hsz:Tryz.prog.globals.size≤k)(hS:Go.Exo.Spec Tryz.prog G 16 [vA] (.one vA) (copyPre m) F)(hF:∀ c,copyPost c (F c)){w:World}{φ:Nat→Nat→Option Value}(hGw:G w)(hφ:Dat φ w)
  {Bn Br Bw:Nat}{aN:Option Addr}{lN cN:Nat}{aR:Option Addr}{lR cR:Nat}{nn:Bool}{N:List (List Cl)}{rn:Bool}{R:List (List Cl)}(hC:Caught w φ Bn Br Bw aN lN cN aR lR cR nn N rn R)
  {ka:Int}{ba:Bool}{na:Int}{sa:ByteArray}{a4:Option Addr}{l4 c4:Nat}{a5:Option Addr}{l5 c5:Nat}{r:List Cl}(hr:CRs (rel φ) vK (c6 ka ba na sa a4 l4 c4 a5 l5 c5) r)
  (hbw:Bws vK r)(hm:SizeOf.sizeOf r<m)
  (IH:∀ (w:World)(φ:Nat→Nat→Option Value)(ka:Int)(ba:Bool)(na:Int)(sa:ByteArray)(a4:Option Addr)(l4 c4:Nat)(a5:Option Addr)(l5 c5:Nat)(r':List Cl),G w→Dat φ w→Caught w φ Bn Br Bw aN lN cN aR lR cR nn N rn R→CRs (rel φ) vK (c6 ka ba na sa a4 l4 c4 a5 l5 c5) r'→Bws vK r'→SizeOf.sizeOf r'<SizeOf.sizeOf r→
   Calls Tryz.prog 14 #[.agg #[.int .i64 ka,.bool ba,.int .i64 na,.string sa,.slice a4 l4 c4,.slice a5 l5 c5],.pointer (some ⟨Bn,0,none⟩),.pointer (some ⟨Br,0,none⟩),.pointer (some ⟨Bw,0,none⟩)] w (WalkC w φ N R r'))(hgoes:goes N R ka na=false)(hcase:(¬ ka=6∧¬ ka=7)∨(ka=6∧hasN N na=false)∨(ka=7∧hasN R na=false)) :
  Calls Tryz.prog 14 #[.agg #[.int .i64 ka,.bool ba,.int .i64 na,.string sa,.slice a4 l4 c4,.slice a5 l5 c5],.pointer (some ⟨Bn,0,none⟩),.pointer (some ⟨Br,0,none⟩),.pointer (some ⟨Bw,0,none⟩)] w (WalkC w φ N R r):=by
 have hkw:=hG.size w hGw
 have hB00:Below w.heap.size w ((w.alloc (.cells #[.int .i64 ka,.bool ba,.int .i64 na,.string sa,.slice a4 l4 c4,.slice a5 l5 c5] 26)).alloc (.cells #[.int .i64 0,.bool false,.int .i64 0,.string { data:=#[] },.slice none 0 0,.slice none 0 0] 26)):=((Below.refl _ w).alloc (Nat.le_refl _) _).alloc (by simp) _
 have hg10:((w.alloc (.cells #[.int .i64 ka,.bool ba,.int .i64 na,.string sa,.slice a4 l4 c4,.slice a5 l5 c5] 26)).alloc (.cells #[.int .i64 0,.bool false,.int .i64 0,.string { data:=#[] },.slice none 0 0,.slice none 0 0] 26)).heap[w.heap.size+1]? = some (.cells #[.int .i64 0,.bool false,.int .i64 0,.string { data:=#[] },.slice none 0 0,.slice none 0 0] 26 (0,0)):=by
  have:=cells_new (w.alloc (.cells #[.int .i64 ka,.bool ba,.int .i64 na,.string sa,.slice a4 l4 c4,.slice a5 l5 c5] 26)) #[.int .i64 0,.bool false,.int .i64 0,.string { data:=#[] },.slice none 0 0,.slice none 0 0] 26
  rwa [World.size_alloc] at this
 have hz00:((w.alloc (.cells #[.int .i64 ka,.bool ba,.int .i64 na,.string sa,.slice a4 l4 c4,.slice a5 l5 c5] 26)).alloc (.cells #[.int .i64 0,.bool false,.int .i64 0,.string { data:=#[] },.slice none 0 0,.slice none 0 0] 26)).heap.size=w.heap.size+2:=by simp
 obtain⟨W1,hW1⟩:∃ W1,(w.alloc (.cells #[.int .i64 ka,.bool ba,.int .i64 na,.string sa,.slice a4 l4 c4,.slice a5 l5 c5] 26)).alloc (.cells #[.int .i64 0,.bool false,.int .i64 0,.string { data:=#[] },.slice none 0 0,.slice none 0 0] 26)=W1:=⟨_,rfl⟩
 have hW1':=hW1
 rw[hW1] at hB00 hg10 hz00
 have hcnA:Calls Tryz.prog 15 #[.slice aN lN cN,.int .i64 na] W1 (ContC W1 (hasN N na)):=cont_c hG hk0 hsz (gd_below hG hGw hkw hB00) (hφ.below hB00) hC.cn (crs_parts hr).choose_spec.choose_spec.choose_spec.choose_spec.2.2.2.2.1
 have hcrA:Calls Tryz.prog 15 #[.slice aR lR cR,.int .i64 na] W1 (ContC W1 (hasN R na)):=cont_c hG hk0 hsz (gd_below hG hGw hkw hB00) (hφ.below hB00) hC.cr (crs_parts hr).choose_spec.choose_spec.choose_spec.choose_spec.2.2.2.2.1
 rw[← hW1'] at hcnA hcrA
 have HCN:=Go.Lib.hid hcnA
 have HCR:=Go.Lib.hid hcrA
 have HW1:=Go.Lib.hid hW1
 have cN0:w.cell? ⟨Bn,0,none⟩=some (.slice aN lN cN):=cells_cell (o:=0) hC.n rfl
 have cR0:w.cell? ⟨Br,0,none⟩=some (.slice aR lR cR):=cells_cell (o:=0) hC.r rfl
 have hBn:Bn<w.heap.size:=(Array.getElem?_eq_some_iff.1 hC.n).1
 have hBr:Br<w.heap.size:=(Array.getElem?_eq_some_iff.1 hC.r).1
 clear hcnA hcrA hW1 hW1'
 have HKV:∃ kv:Value,Hid (kv=.int .i64 ka):=⟨_,rfl⟩
 obtain⟨kv,HKV⟩:=HKV
 go_enter Tryz.func14,Tryz.ntmps14
 rcases hcase with⟨h6,h7⟩|⟨h6,hN⟩|⟨h6,hR⟩
 all_goals (try subst h6)
 all_goals (try rw[hN] at HCN)
 all_goals (try rw[hR] at HCR)
 all_goals go_wp2_with (first|(go_at_call 15;refine HCN.out.mono ?_;rintro e w2 ⟨rfl,hb2⟩;obtain⟨hc2,hf2⟩:=bcell hb2)|(go_at_call 15;refine HCR.out.mono ?_;rintro e w2 ⟨rfl,hb2⟩;obtain⟨hc2,hf2⟩:=bcell hb2))
 all_goals (first
  |(rw[HW1.out] at hb2
    have hB0:Below w.heap.size w w2:=hB00.trans (hb2.mono (by omega))
    have g1:=(hb2.block (w.heap.size+1) (by omega)).trans hg10
    have hsz2:w.heap.size+2≤w2.heap.size:=by have:=hb2.size;omega
    clear hb2 hc2 hf2
    obtain⟨W2,rfl⟩:∃ W2,W2=w2:=⟨_,rfl⟩)
  |(rw[HW1.out]
    have hB0:=hB00
    have g1:=hg10
    have hsz2:w.heap.size+2≤W1.heap.size:=by omega
    obtain⟨W2,rfl⟩:∃ W2,W2=W1:=⟨_,rfl⟩))
 all_goals
  clear hB00 hg10 hz00 HCN HCR HW1 cN0 cR0
  obtain⟨nl,ys,ml,rs,rfl,hc4,hc5,hci,hcn,hss⟩:=crs_parts hr
  refine (copy_own hG hS hF (gd_below hG hGw hkw hB0) (hφ.below hB0) hc4 hc5 (bws_ys hbw).open.1 ⟨Bws.one (bws_rs hbw),by simp only[List.cons.sizeOf_spec,List.nil.sizeOf_spec,Cl.sl.sizeOf_spec] at hm ⊢;omega⟩).mono ?_
  rintro e w3 ⟨z4,zl4,zc4,v,xs,φ3,out,rfl,hb3,hown,H3⟩
  obtain⟨av,lv,cv,rfl⟩:=own_slice hown
  have P1:=Go.Lib.hid ((hb3.block (w.heap.size+1) (by omega)).trans g1)
  have hlv:lv=rs.length:=by
   rcases hown.2 with⟨h1,h2⟩|⟨g,cap,cur,h1,_⟩
   ·cases h1;exact h2.symm
   ·cases h1;rfl
  subst hlv
  have hout:=H3.out.2.2.2.2.2
  have hmax:rs.length≤9223372036854775807:=by have:=(slice_form hc5).choose_spec.choose_spec.2.1;simpa[maxLen] using this
  have HG:=Go.Lib.hid hG
  have HGw:=Go.Lib.hid hGw
  have Hφ:=Go.Lib.hid hφ
  have Hr:=Go.Lib.hid hr
  have HGo:=Go.Lib.hid hgoes
  have HBW:=Go.Lib.hid hbw
  have HII:=Go.Lib.hid IH
  have HC:=Go.Lib.hid hC
  have HB0:=Go.Lib.hid hB0
  have Hb3:=Go.Lib.hid hb3
  have HZ:=Go.Lib.hid hsz2
  have HO:=Go.Lib.hid hown
  have HL:=Go.Lib.hid hout
  have s3:=hb3.size
  clear hG hGw hφ hr hC hB0 hb3 hsz2 hown hout g1 hS hF hc4 hc5 hci hcn hss hk0 hsz hgoes hbw IH
  go_wp2
  go_loopw [34] (fun i wr=>∃ j:Nat,j≤rs.length∧i=.int .i64 j∧Hid (LInv w W2 φ N R out (.slice av rs.length cv) rs.length w3.heap.size (w.heap.size+1) #[kv,.bool ba,.int .i64 na,.string sa,.slice z4 zl4 zc4,.slice av rs.length cv] #[.int .i64 0,.bool false,.int .i64 0,.string { data:=#[] },.slice none 0 0,.slice none 0 0] (.slice z4 zl4 zc4) (.sl nl ys) j wr)) (fun i _=>rs.length-(intOf i).toNat)
  case atStart=>exact⟨0,Nat.zero_le _,rfl,by rw[HKV.out];exact LInv.start HB0.out Hb3.out HO.out H3.out.1 H3.out.2.1 H3.out.2.2.1 H3.out.2.2.2.1 HL.out P1.out⟩
  case round=>
   obtain⟨j,hj,rfl,HI⟩:=hrel
   by_cases hlt:j<rs.length
   ·obtain⟨xs,cur,φk,hown,hrv,hcl,hsame,hdone,hg,hn,hB,hbo,hbq,hz,hsz⟩:=HI.out
    obtain⟨r,hr⟩:∃ r,cur[j]? = some r:=⟨cur[j]'(by omega),by simp⟩
    rcases hown.2 with⟨_,h0⟩|⟨g,cap,arr,hv,hgb,hh,hncp,hcpm,hcs,htake⟩
    ·omega
    ·cases hv
     obtain⟨y0,y1,y2,y3,y4,y5,a0,a1,a2,a3,b4,b5,hcr⟩:=hrv.2 j r hr
     obtain⟨kj,bj,nj,sj,aj4,lj4,dj4,aj5,lj5,dj5,rfl,rfl,rfl,rfl,rfl,rfl⟩:=row_form hcr
     have hcell:∀ (o:Nat)(u:Value),o<rs.length*6→xs[o]? = some u→wr.cell? ⟨g,o,none⟩=some u:=fun o u ho hu=>by
      rw[← htake,List.getElem?_take_of_lt ho] at hu
      exact cells_cell hh (by simpa using hu)
     have hS0:Sees wr w3.heap.size Bw g (j*6) (.slice (some ⟨g,0,none⟩) rs.length cv) (.func (.func 14) #[] #[.pointer (some ⟨Bn,0,none⟩),.pointer (some ⟨Br,0,none⟩),.pointer (some ⟨Bw,0,none⟩)]) (.int .i64 kj) (.bool bj) (.int .i64 nj) (.string sj) (.slice aj4 lj4 dj4) (.slice aj5 lj5 dj5):=
      ⟨cells_cell hbo rfl,cells_cell ((hB.block Bw (Array.getElem?_eq_some_iff.1 HC.out.w).1).trans HC.out.w) rfl,hcell _ _ (by omega) a0,hcell _ _ (by omega) a1,hcell _ _ (by omega) a2,hcell _ _ (by omega) a3,hcell _ _ (by omega) b4,hcell _ _ (by omega) b5,fun o=>cells_frozen hh⟩
     have hIHj:∀ W,Below wr.heap.size wr W→Calls Tryz.prog 14 #[.agg #[.int .i64 kj,.bool bj,.int .i64 nj,.string sj,.slice aj4 lj4 dj4,.slice aj5 lj5 dj5],.pointer (some ⟨Bn,0,none⟩),.pointer (some ⟨Br,0,none⟩),.pointer (some ⟨Bw,0,none⟩)] W (WalkC W φk N R r):=fun W hW=>by
      have hro:nrmR r=nrmR (rs[j]'hlt):=by
       refine nrmRs_get H3.out.2.2.2.2.1 ?_ (List.getElem?_eq_getElem hlt)
       rw[← hsame j (Nat.le_refl _)];exact hr
      have hmem:rs[j]'hlt∈rs:=List.getElem_mem _
      refine HII.out W φk _ _ _ _ _ _ _ _ _ _ r (gd_below HG.out HGw.out hkw (hB.trans (hW.mono hB.size))) (hg.dat.below hW) ((HC.out.below hB fun b o u h=>hg.sub _ _ _ h).below hW fun _ _ _ h=>h) hcr (bws_nrm ((bws_rs HBW.out).open.2 _ hmem) hro) ?_
      have q1:=size_nrmR r
      rw[hro,size_nrmR] at q1
      have q2:=List.sizeOf_lt_of_mem hmem
      simp only[List.cons.sizeOf_spec,List.nil.sizeOf_spec,Cl.sl.sizeOf_spec]
      omega
     have hgl:g<wr.heap.size:=(Array.getElem?_eq_some_iff.1 hh).1
     have hwl:Bw<wr.heap.size:=by have:=(Array.getElem?_eq_some_iff.1 HC.out.w).1;have:=hB.size;omega
     have hol:w3.heap.size<wr.heap.size:=(Array.getElem?_eq_some_iff.1 hbo).1
     have hgw:g≠Bw:=by have:=(Array.getElem?_eq_some_iff.1 HC.out.w).1;have:=HB0.out.size;omega
     have hgo:g≠w3.heap.size:=by
      rcases HO.out.2 with⟨h,_⟩|⟨g',cap',arr',h,_,h2,_⟩
      ·cases h
      ·cases h;have:=(Array.getElem?_eq_some_iff.1 h2).1;omega
     have HQ:=Go.Lib.hid (And.intro hown (And.intro hrv (And.intro hcl (And.intro hsame (And.intro hdone (And.intro hg (And.intro hn (And.intro hB (And.intro hbo (And.intro hbq (And.intro hz (And.intro hsz (And.intro hr hgb)))))))))))))
     have HS:=Go.Lib.hid hS0
     have HIH:=Go.Lib.hid hIHj
     have hj0:(0:Int)≤(j:Int):=by omega
     have hj1:(j:Int)<(rs.length:Int):=by omega
     have KS:Hid (∀ (W:World),Below wr.drew.heap.size wr.drew W→(W.cell? ⟨w3.heap.size,5,none⟩=some (.slice (some ⟨g,0,none⟩) rs.length cv)∧W.cell? ⟨Bw,0,none⟩=some (.func (.func 14) #[] #[.pointer (some ⟨Bn,0,none⟩),.pointer (some ⟨Br,0,none⟩),.pointer (some ⟨Bw,0,none⟩)]))):=fun W hb=>
      ⟨(hb.cell (p:=⟨w3.heap.size,5,none⟩) hol).trans hS0.1,(hb.cell (p:=⟨Bw,0,none⟩) hwl).trans hS0.2.1⟩
     have KT:Hid (∀ (W:World)(o:Nat)(v:Value),(W.cell? ⟨w3.heap.size,5,none⟩=some (.slice (some ⟨g,0,none⟩) rs.length cv)∧W.cell? ⟨Bw,0,none⟩=some (.func (.func 14) #[] #[.pointer (some ⟨Bn,0,none⟩),.pointer (some ⟨Br,0,none⟩),.pointer (some ⟨Bw,0,none⟩)]))→
       ((W.setCell ⟨g,o,none⟩ v).cell? ⟨w3.heap.size,5,none⟩=some (.slice (some ⟨g,0,none⟩) rs.length cv)∧(W.setCell ⟨g,o,none⟩ v).cell? ⟨Bw,0,none⟩=some (.func (.func 14) #[] #[.pointer (some ⟨Bn,0,none⟩),.pointer (some ⟨Br,0,none⟩),.pointer (some ⟨Bw,0,none⟩)]))):=fun W o v h=>
      ⟨(World.cell?_of_block (Below.heap_setCell W ⟨g,o,none⟩ v w3.heap.size (fun e=>hgo e.symm))).trans h.1,(World.cell?_of_block (Below.heap_setCell W ⟨g,o,none⟩ v Bw (fun e=>hgw e.symm))).trans h.2⟩
     have KT6:Hid (∀ (W:World)(v0 v1 v2 v3 v4 v5:Value),(W.cell? ⟨w3.heap.size,5,none⟩=some (.slice (some ⟨g,0,none⟩) rs.length cv)∧W.cell? ⟨Bw,0,none⟩=some (.func (.func 14) #[] #[.pointer (some ⟨Bn,0,none⟩),.pointer (some ⟨Br,0,none⟩),.pointer (some ⟨Bw,0,none⟩)]))→(((((((W.setCell ⟨g,j*6,none⟩ v0).setCell ⟨g,j*6+1,none⟩ v1).setCell ⟨g,j*6+2,none⟩ v2).setCell ⟨g,j*6+3,none⟩ v3).setCell ⟨g,j*6+4,none⟩ v4).setCell ⟨g,j*6+5,none⟩ v5).cell? ⟨w3.heap.size,5,none⟩=some (.slice (some ⟨g,0,none⟩) rs.length cv)∧((((((W.setCell ⟨g,j*6,none⟩ v0).setCell ⟨g,j*6+1,none⟩ v1).setCell ⟨g,j*6+2,none⟩ v2).setCell ⟨g,j*6+3,none⟩ v3).setCell ⟨g,j*6+4,none⟩ v4).setCell ⟨g,j*6+5,none⟩ v5).cell? ⟨Bw,0,none⟩=some (.func (.func 14) #[] #[.pointer (some ⟨Bn,0,none⟩),.pointer (some ⟨Br,0,none⟩),.pointer (some ⟨Bw,0,none⟩)]))):=fun W v0 v1 v2 v3 v4 v5 h=>KT.out _ _ _ (KT.out _ _ _ (KT.out _ _ _ (KT.out _ _ _ (KT.out _ _ _ (KT.out _ _ _ h)))))
     have S0:wr.drew.cell? ⟨w3.heap.size,5,none⟩=some (.slice (some ⟨g,0,none⟩) rs.length cv)∧wr.drew.cell? ⟨Bw,0,none⟩=some (.func (.func 14) #[] #[.pointer (some ⟨Bn,0,none⟩),.pointer (some ⟨Br,0,none⟩),.pointer (some ⟨Bw,0,none⟩)]):=⟨hS0.1,hS0.2.1⟩
     have GW:=Go.Lib.hid hgw
     have GO:=Go.Lib.hid hgo
     clear hS0 hIHj hcell hown hrv hcl hsame hdone hg hn hB hbo hbq hz hsz hr hgb hh hncp hcpm hcs htake a0 a1 a2 a3 b4 b5 hcr HI hgw hgo
     obtain⟨s1,s2,s3',s4,s5,s6,s7,s8,s9⟩:=HS.out
     go_upto_region 7 with (fail)
     refine wp_region_held_drew (S:=(fun W=>W.cell? ⟨w3.heap.size,5,none⟩=some (.slice (some ⟨g,0,none⟩) rs.length cv)∧W.cell? ⟨Bw,0,none⟩=some (.func (.func 14) #[] #[.pointer (some ⟨Bn,0,none⟩),.pointer (some ⟨Br,0,none⟩),.pointer (some ⟨Bw,0,none⟩)]))) (by kernel_rfl) S0 (fun hHeld=>?_)
     refine wpAnyH_take (i:=0) (oi:=⟨some 37,.fieldAddr 26 (.tmp 6) 5,0, "clauses.go:475",#[],none⟩) (v:=?_) rfl (by kernel_rfl) (by kernel_rfl) (by kernel_rfl) (fun _ _ _ h=>h) (Or.inl ⟨by rfl,?_⟩) (by assumption) ?_
     rotate_left 1
     ·intro w hSw;(try dsimp only at hSw);go_simp;try with_reducible rfl
     try simp only[Act.put,List.setIfInBounds_toArray,List.set_cons_zero,List.set_cons_succ]
     refine wpAnyH_take (i:=1) (oi:=⟨some 38,.load 24 (.tmp 37),24, "clauses.go:475",#[⟨0,.data⟩],none⟩) (v:=?_) rfl (by kernel_rfl) (by kernel_rfl) (by kernel_rfl) (fun _ _ _ h=>h) (Or.inl ⟨by rfl,?_⟩) (by assumption) ?_
     rotate_left 1
     ·intro w hSw;(try dsimp only at hSw);go_simp;try with_reducible rfl
     try simp only[Act.put,List.setIfInBounds_toArray,List.set_cons_zero,List.set_cons_succ]
     refine wpAnyH_take (i:=2) (oi:=⟨some 39,.move (.tmp 7),3, "clauses.go:475",#[],none⟩) (v:=?_) rfl (by kernel_rfl) (by kernel_rfl) (by kernel_rfl) (fun _ _ _ h=>h) (Or.inl ⟨by rfl,?_⟩) (by assumption) ?_
     rotate_left 1
     ·intro w hSw;(try dsimp only at hSw);go_simp;try with_reducible rfl
     try simp only[Act.put,List.setIfInBounds_toArray,List.set_cons_zero,List.set_cons_succ]
     refine wpAnyH_take (i:=3) (oi:=⟨some 40,.load 53 (.tmp 3),53, "clauses.go:475",#[],none⟩) (v:=?_) rfl (by kernel_rfl) (by kernel_rfl) (by kernel_rfl) (fun _ _ _ h=>h) (Or.inl ⟨by rfl,?_⟩) (by assumption) ?_
     rotate_left 1
     ·intro w hSw;(try dsimp only at hSw);go_simp;try with_reducible rfl
     try simp only[Act.put,List.setIfInBounds_toArray,List.set_cons_zero,List.set_cons_succ]
     refine wpAnyH_take (i:=4) (oi:=⟨some 41,.fieldAddr 26 (.tmp 6) 5,0, "clauses.go:475",#[],none⟩) (v:=?_) rfl (by kernel_rfl) (by kernel_rfl) (by kernel_rfl) (fun _ _ _ h=>h) (Or.inl ⟨by rfl,?_⟩) (by assumption) ?_
     rotate_left 1
     ·intro w hSw;(try dsimp only at hSw);go_simp;try with_reducible rfl
     try simp only[Act.put,List.setIfInBounds_toArray,List.set_cons_zero,List.set_cons_succ]
     refine wpAnyH_take (i:=5) (oi:=⟨some 42,.load 24 (.tmp 41),24, "clauses.go:475",#[⟨4,.data⟩],none⟩) (v:=?_) rfl (by kernel_rfl) (by kernel_rfl) (by kernel_rfl) (fun _ _ _ h=>h) (Or.inl ⟨by rfl,?_⟩) (by assumption) ?_
     rotate_left 1
     ·intro w hSw;(try dsimp only at hSw);go_simp;try with_reducible rfl
     try simp only[Act.put,List.setIfInBounds_toArray,List.set_cons_zero,List.set_cons_succ]
     refine wpAnyH_take (i:=6) (oi:=⟨some 43,.move (.tmp 7),3, "clauses.go:475",#[],none⟩) (v:=?_) rfl (by kernel_rfl) (by kernel_rfl) (by kernel_rfl) (fun _ _ _ h=>h) (Or.inl ⟨by rfl,?_⟩) (by assumption) ?_
     rotate_left 1
     ·intro w hSw;(try dsimp only at hSw);go_simp;try with_reducible rfl
     try simp only[Act.put,List.setIfInBounds_toArray,List.set_cons_zero,List.set_cons_succ]
     refine wpAnyH_take (i:=7) (oi:=⟨some 44,.indexAddr 24 (.tmp 42) (.tmp 43),0, "clauses.go:475",#[⟨5,.data⟩,⟨6,.data⟩],none⟩) (v:=?_) rfl (by kernel_rfl) (by kernel_rfl) (by kernel_rfl) (fun _ _ _ h=>h) (Or.inl ⟨by rfl,?_⟩) (by assumption) ?_
     rotate_left 1
     ·intro w hSw;(try dsimp only at hSw);go_simp;try with_reducible rfl
     try simp only[Act.put,List.setIfInBounds_toArray,List.set_cons_zero,List.set_cons_succ]
     refine wpAnyH_ready (rs:=[8]) (by kernel_rfl) (by simp) ?_
     refine AllReadyH.cons (o:=⟨some 45,.load 26 (.tmp 44),26, "clauses.go:475",#[⟨7,.data⟩],none⟩) rfl (fun K hK=>?_) AllReadyH.nil
     go_simp
     refine hK.out _ _ (by assumption) (fun _=>?_)
     clear hK K
     try simp only[Act.put,List.setIfInBounds_toArray,List.set_cons_zero,List.set_cons_succ]
     refine wpAnyH_ready (rs:=[9]) (by kernel_rfl) (by simp) ?_
     refine AllReadyH.cons (o:=⟨some 46,.call ⟨.value (.tmp 40),#[.tmp 45],#[26]⟩,26, "clauses.go:475",#[⟨3,.data⟩,⟨8,.data⟩],none⟩) rfl (fun K hK=>?_) AllReadyH.nil
     go_simp
     refine (HIH.out _ ((Below.refl _ _).drew)).mono ?_
     rintro e w' ⟨kz,bz,nz,sz,az4,lz4,cz4,az5,lz5,cz5,φ4,d,rfl,hb,HD⟩
     have zz0:=(hb.cell (p:=⟨g,j*6,none⟩) hgl).trans s3'
     have zz1:=(hb.cell (p:=⟨g,j*6+1,none⟩) hgl).trans s4
     have zz2:=(hb.cell (p:=⟨g,j*6+2,none⟩) hgl).trans s5
     have zz3:=(hb.cell (p:=⟨g,j*6+3,none⟩) hgl).trans s6
     have zz4:=(hb.cell (p:=⟨g,j*6+4,none⟩) hgl).trans s7
     have zz5:=(hb.cell (p:=⟨g,j*6+5,none⟩) hgl).trans s8
     have zf:=fun o=>(hb.frozen (p:=⟨g,o,none⟩) hgl).trans (s9 o)
     have sw:=KS.out _ hb
     refine hK.out _ _ sw (fun _=>?_)
     clear hK K
     try simp only[Act.put,List.setIfInBounds_toArray,List.set_cons_zero,List.set_cons_succ]
     refine wpAnyH_ready (rs:=[10]) (by kernel_rfl) (by simp) ?_
     refine AllReadyH.cons (o:=⟨some 47,.indexAddr 24 (.tmp 38) (.tmp 39),0, "clauses.go:475",#[⟨1,.data⟩,⟨2,.data⟩,⟨0,.phase⟩,⟨1,.phase⟩,⟨2,.phase⟩,⟨3,.phase⟩,⟨4,.phase⟩,⟨5,.phase⟩,⟨6,.phase⟩,⟨7,.phase⟩,⟨8,.phase⟩,⟨9,.phase⟩],none⟩) rfl (fun K hK=>?_) AllReadyH.nil
     go_simp
     refine hK.out _ _ sw (fun _=>?_)
     clear hK K
     try simp only[Act.put,List.setIfInBounds_toArray,List.set_cons_zero,List.set_cons_succ]
     refine wpAnyH_ready (rs:=[11]) (by kernel_rfl) (by simp) ?_
     refine AllReadyH.cons (o:=⟨none,.store 26 (.tmp 47) (.tmp 46),0, "clauses.go:475",#[⟨10,.data⟩,⟨9,.data⟩,⟨9,.chain⟩,⟨0,.phase⟩,⟨1,.phase⟩,⟨2,.phase⟩,⟨3,.phase⟩,⟨4,.phase⟩,⟨5,.phase⟩,⟨6,.phase⟩,⟨7,.phase⟩,⟨8,.phase⟩,⟨9,.phase⟩],none⟩) rfl (fun K hK=>?_) AllReadyH.nil
     go_simp
     refine hK.out _ _ (KT6.out _ _ _ _ _ _ _ sw) (fun _=>?_)
     clear hK K
     refine wpAnyH_done (by kernel_rfl) ?_ _
     have HI':Hid (LInv w W2 φ N R out (.slice (some ⟨g,0,none⟩) rs.length cv) rs.length w3.heap.size (w.heap.size+1) #[kv,.bool ba,.int .i64 na,.string sa,.slice z4 zl4 zc4,.slice (some ⟨g,0,none⟩) rs.length cv] #[.int .i64 0,.bool false,.int .i64 0,.string { data:=#[] },.slice none 0 0,.slice none 0 0] (.slice z4 zl4 zc4) (.sl nl ys) (j+1)
       (set6 w' g (j*6) (.int .i64 kz) (.bool bz) (.int .i64 nz) (.string sz) (.slice az4 lz4 cz4) (.slice az5 lz5 cz5))):=by
      obtain⟨q1,q2,q3,q4,q5,q6,q7,q8,q9,q10,q11,q12,q13,q14⟩:=HQ.out
      exact LInv.step HB0.out.size (by have:=HZ.out;omega) GO.out q1 q2 q3 q4 q5 q6 q7 q8 q9 q10 q11 q12 q13 q14 hgl hb HD.out.1 HD.out.2.1 HD.out.2.2
     clear zz0 zz1 zz2 zz3 zz4 zz5 zf sw hb s1 s2 s3' s4 s5 s6 s7 s8 s9
     go_wp2
     go_roundw
     case rel=>exact⟨j+1,by omega,by go_num,HI'⟩
     case measure=>simp[intOf];omega
   ·have HK:Hid (j=rs.length):=by unfold Hid;omega
    have hE:=fun u0 u1 u2 u3 u4 u5=>walk_end (u0:=u0) (u1:=u1) (u2:=u2) (u3:=u3) (u4:=u4) (u5:=u5) Hr.out HGo.out H3.out.2.2.2.2.1 HL.out Hφ.out HB0.out.size (Nat.le_succ _) (by have:=HZ.out;omega) (HK.out ▸ HI.out)
    obtain⟨xs,cur,φk,hown,hrv,hcl,hsame,hdone,hg,hn,hB,hbo,hbq,hz,hsz⟩:=HI.out
    have y0:=cells_cell (o:=0) hbo rfl
    rw[HKV.out] at y0
    have y1:=cells_cell (o:=1) hbo rfl
    have y2:=cells_cell (o:=2) hbo rfl
    have y3:=cells_cell (o:=3) hbo rfl
    have y4:=cells_cell (o:=4) hbo rfl
    have y5:=cells_cell (o:=5) hbo rfl
    have r0:=cells_cell (o:=0) hbq rfl
    have r1:=cells_cell (o:=1) hbq rfl
    have r2:=cells_cell (o:=2) hbq rfl
    have r3:=cells_cell (o:=3) hbq rfl
    have r4:=cells_cell (o:=4) hbq rfl
    have r5:=cells_cell (o:=5) hbq rfl
    have rf:=fun o=>cells_frozen (o:=o) hbq
    have HE:=Go.Lib.hid hE
    have Q1:=Go.Lib.hid hbq
    clear hE hown hrv hcl hsame hdone hg hn hB hbo hbq hz hsz HI
    go_wp2
    exact bodyPost_ret (fin6_results14 Q1.out rfl) rfl (HE.out _ _ _ _ _ _)
end Go.Proofs.Wo

namespace Go.Proofs.Wo
open Go.Exo Go.Exo.Wo Go.RowKit
set_option maxRecDepth 100000
set_option linter.all false
variable {k:Nat}{G:World→Prop}
theorem gone_end {w W2:World}{φ:Nat→Nat→Option Value}{N R:List (List Cl)}{Bq:Nat}{ka:Int}{ba:Bool}{na:Int}{sa:ByteArray}{a4:Option Addr}{l4 c4:Nat}{a5:Option Addr}{l5 c5:Nat}{r:List Cl}{u0 u1 u2 u3 u4 u5:Value}
  (hr:CRs (rel φ) vK (c6 ka ba na sa a4 l4 c4 a5 l5 c5) r)(hgo:goes N R ka na=true)(hφ:Dat φ w)(hB:Below w.heap.size w W2)(hq:w.heap.size≤Bq) :
  WalkC w φ N R r (.returned (.agg #[.int .i64 0,.bool false,.int .i64 0,.string ⟨#[]⟩,.slice none 0 0,.slice none 0 0])) (fin6 W2 Bq u0 u1 u2 u3 u4 u5):=by
 obtain⟨nl2,ys2,ml2,rs2,rfl,_⟩:=crs_parts hr
 have hB2:=fin6_below (v0:=u0) (v1:=u1) (v2:=u2) (v3:=u3) (v4:=u4) (v5:=u5) hB hq
 exact⟨0,false,0,⟨#[]⟩,none,0,0,none,0,0,φ,zeroR,rfl,hB2,⟨(Grows.refl hφ).below hB2,.cons (.int .i64 0 (by decide) (by decide)) (.cons (.bool false) (.cons (.int .i64 0 (by decide) (by decide)) (.cons (.str ⟨#[]⟩ (by decide)) (.cons (.nil 9) (.cons (.nil 26) .nil))))),.gone hgo rfl⟩⟩
set_option maxHeartbeats 4000000 in
theorem walk_gone (hG:Gd0 k G)(hk0:0<k)(hsz:Tryz.prog.globals.size≤k){w:World}{φ:Nat→Nat→Option Value}(hGw:G w)(hφ:Dat φ w)
  {Bn Br Bw:Nat}{aN:Option Addr}{lN cN:Nat}{aR:Option Addr}{lR cR:Nat}{nn:Bool}{N:List (List Cl)}{rn:Bool}{R:List (List Cl)}(hC:Caught w φ Bn Br Bw aN lN cN aR lR cR nn N rn R)
  {ka:Int}{ba:Bool}{na:Int}{sa:ByteArray}{a4:Option Addr}{l4 c4:Nat}{a5:Option Addr}{l5 c5:Nat}{r:List Cl}(hr:CRs (rel φ) vK (c6 ka ba na sa a4 l4 c4 a5 l5 c5) r)
  (hgoes:goes N R ka na=true)(hcase:(ka=6∧hasN N na=true)∨(ka=7∧hasN R na=true)) :
  Calls Tryz.prog 14 #[.agg #[.int .i64 ka,.bool ba,.int .i64 na,.string sa,.slice a4 l4 c4,.slice a5 l5 c5],.pointer (some ⟨Bn,0,none⟩),.pointer (some ⟨Br,0,none⟩),.pointer (some ⟨Bw,0,none⟩)] w (WalkC w φ N R r):=by
 have hkw:=hG.size w hGw
 have hB00:Below w.heap.size w ((w.alloc (.cells #[.int .i64 ka,.bool ba,.int .i64 na,.string sa,.slice a4 l4 c4,.slice a5 l5 c5] 26)).alloc (.cells #[.int .i64 0,.bool false,.int .i64 0,.string { data:=#[] },.slice none 0 0,.slice none 0 0] 26)):=((Below.refl _ w).alloc (Nat.le_refl _) _).alloc (by simp) _
 have hg10:((w.alloc (.cells #[.int .i64 ka,.bool ba,.int .i64 na,.string sa,.slice a4 l4 c4,.slice a5 l5 c5] 26)).alloc (.cells #[.int .i64 0,.bool false,.int .i64 0,.string { data:=#[] },.slice none 0 0,.slice none 0 0] 26)).heap[w.heap.size+1]? = some (.cells #[.int .i64 0,.bool false,.int .i64 0,.string { data:=#[] },.slice none 0 0,.slice none 0 0] 26 (0,0)):=by
  have:=cells_new (w.alloc (.cells #[.int .i64 ka,.bool ba,.int .i64 na,.string sa,.slice a4 l4 c4,.slice a5 l5 c5] 26)) #[.int .i64 0,.bool false,.int .i64 0,.string { data:=#[] },.slice none 0 0,.slice none 0 0] 26
  rwa [World.size_alloc] at this
 have hz00:((w.alloc (.cells #[.int .i64 ka,.bool ba,.int .i64 na,.string sa,.slice a4 l4 c4,.slice a5 l5 c5] 26)).alloc (.cells #[.int .i64 0,.bool false,.int .i64 0,.string { data:=#[] },.slice none 0 0,.slice none 0 0] 26)).heap.size=w.heap.size+2:=by simp
 obtain⟨W1,hW1⟩:∃ W1,(w.alloc (.cells #[.int .i64 ka,.bool ba,.int .i64 na,.string sa,.slice a4 l4 c4,.slice a5 l5 c5] 26)).alloc (.cells #[.int .i64 0,.bool false,.int .i64 0,.string { data:=#[] },.slice none 0 0,.slice none 0 0] 26)=W1:=⟨_,rfl⟩
 have hW1':=hW1
 rw[hW1] at hB00 hg10 hz00
 have hcnA:Calls Tryz.prog 15 #[.slice aN lN cN,.int .i64 na] W1 (ContC W1 (hasN N na)):=cont_c hG hk0 hsz (gd_below hG hGw hkw hB00) (hφ.below hB00) hC.cn (crs_parts hr).choose_spec.choose_spec.choose_spec.choose_spec.2.2.2.2.1
 have hcrA:Calls Tryz.prog 15 #[.slice aR lR cR,.int .i64 na] W1 (ContC W1 (hasN R na)):=cont_c hG hk0 hsz (gd_below hG hGw hkw hB00) (hφ.below hB00) hC.cr (crs_parts hr).choose_spec.choose_spec.choose_spec.choose_spec.2.2.2.2.1
 rw[← hW1'] at hcnA hcrA
 have HCN:=Go.Lib.hid hcnA
 have HCR:=Go.Lib.hid hcrA
 have HW1:=Go.Lib.hid hW1
 have cN0:w.cell? ⟨Bn,0,none⟩=some (.slice aN lN cN):=cells_cell (o:=0) hC.n rfl
 have cR0:w.cell? ⟨Br,0,none⟩=some (.slice aR lR cR):=cells_cell (o:=0) hC.r rfl
 have hBn:Bn<w.heap.size:=(Array.getElem?_eq_some_iff.1 hC.n).1
 have hBr:Br<w.heap.size:=(Array.getElem?_eq_some_iff.1 hC.r).1
 clear hcnA hcrA hW1 hW1'
 have HE:=Go.Lib.hid (fun (W2:World)(hB:Below w.heap.size w W2)(u0 u1 u2 u3 u4 u5:Value)=>gone_end (u0:=u0) (u1:=u1) (u2:=u2) (u3:=u3) (u4:=u4) (u5:=u5) hr hgoes hφ hB (Nat.le_succ w.heap.size))
 have HG10:=Go.Lib.hid hg10
 have HB00:=Go.Lib.hid hB00
 have HZ00:=Go.Lib.hid hz00
 clear hgoes hr hφ hC hG hGw hk0 hsz hg10 hB00 hz00
 go_enter Tryz.func14,Tryz.ntmps14
 rcases hcase with⟨h6,hN⟩|⟨h6,hR⟩
 all_goals (try subst h6)
 all_goals (try rw[hN] at HCN)
 all_goals (try rw[hR] at HCR)
 all_goals go_wp2_with (first
  |(go_at_call 15;refine HCN.out.mono ?_;rintro e w2 ⟨rfl,hb2⟩;obtain⟨hc2,hf2⟩:=bcell hb2;rw[HW1.out] at hb2;have HB2:=Go.Lib.hid hb2;have hs2:=(HZ00.out ▸ hb2.size:w.heap.size+2≤w2.heap.size);clear hb2)
  |(go_at_call 15;refine HCR.out.mono ?_;rintro e w2 ⟨rfl,hb2⟩;obtain⟨hc2,hf2⟩:=bcell hb2;rw[HW1.out] at hb2;have HB2:=Go.Lib.hid hb2;have hs2:=(HZ00.out ▸ hb2.size:w.heap.size+2≤w2.heap.size);clear hb2))
 all_goals
  have q1:=(HB2.out.block (w.heap.size+1) (by have:=HZ00.out;omega)).trans HG10.out
  exact bodyPost_ret (fin6_results14 q1 rfl) rfl (HE.out _ (HB00.out.trans (HB2.out.mono (by have:=HZ00.out;omega))) _ _ _ _ _ _)
end Go.Proofs.Wo

namespace Go.Proofs.Wo
open Go.Exo Go.Exo.Wo Go.RowKit
set_option maxRecDepth 100000
set_option linter.all false
variable {k:Nat}{G:World→Prop}
theorem walk_n (hG:Gd0 k G)(hk0:0<k)(hsz:Tryz.prog.globals.size≤k){Bn Br Bw:Nat}{aN:Option Addr}{lN cN:Nat}{aR:Option Addr}{lR cR:Nat}{nn:Bool}{N:List (List Cl)}{rn:Bool}{R:List (List Cl)} :
  ∀ (m:Nat)(w:World)(φ:Nat→Nat→Option Value)(ka:Int)(ba:Bool)(na:Int)(sa:ByteArray)(a4:Option Addr)(l4 c4:Nat)(a5:Option Addr)(l5 c5:Nat)(r:List Cl),G w→Dat φ w→Caught w φ Bn Br Bw aN lN cN aR lR cR nn N rn R→CRs (rel φ) vK (c6 ka ba na sa a4 l4 c4 a5 l5 c5) r→Bws vK r→SizeOf.sizeOf r<m→
   Calls Tryz.prog 14 #[.agg #[.int .i64 ka,.bool ba,.int .i64 na,.string sa,.slice a4 l4 c4,.slice a5 l5 c5],.pointer (some ⟨Bn,0,none⟩),.pointer (some ⟨Br,0,none⟩),.pointer (some ⟨Bw,0,none⟩)] w (WalkC w φ N R r):=by
 intro m
 induction m with
 |zero=>intro w φ ka ba na sa a4 l4 c4 a5 l5 c5 r _ _ _ _ _ h;omega
 |succ m ih=>
  intro w φ ka ba na sa a4 l4 c4 a5 l5 c5 r hGw hφ hC hr hbw hm
  cases hgo:goes N R ka na with
  |true=>
   refine walk_gone hG hk0 hsz hGw hφ hC hr hgo ?_
   unfold goes at hgo
   simp only[Bool.or_eq_true,Bool.and_eq_true,beq_iff_eq] at hgo
   exact hgo
  |false=>
   obtain⟨F,hS,hF⟩:=copy_spec hG hk0 hsz (m+1)
   refine walk_own hG hk0 hsz hS hF hGw hφ hC hr hbw hm (fun w' φ' ka' ba' na' sa' a4' l4' c4' a5' l5' c5' r' h1 h2 h3 h4 h5 h6=>ih w' φ' ka' ba' na' sa' a4' l4' c4' a5' l5' c5' r' h1 h2 h3 h4 h5 (by omega)) hgo ?_
   unfold goes at hgo
   simp only[Bool.or_eq_false_iff,Bool.and_eq_false_iff,beq_eq_false_iff_ne,ne_eq] at hgo
   obtain⟨h1,h2⟩:=hgo
   by_cases h6:ka=6
   ·exact .inr (.inl ⟨h6,h1.resolve_left (fun h=>h h6)⟩)
   ·by_cases h7:ka=7
    ·exact .inr (.inr ⟨h7,h2.resolve_left (fun h=>h h7)⟩)
    ·exact .inl ⟨h6,h7⟩
theorem fin6_results7 {w8:World}{B:Nat}{v0 v1 v2 v3 v4 v5 z0 z1 z2 z3 z4 z5:Value}{tmps:Array Value}(h:w8.heap[B]? = some (.cells #[z0,z1,z2,z3,z4,z5] 26 (0,0)))(ht:tmps[6]? = some (.pointer (some ⟨B,0,none⟩))) :
  (results Tryz.f7 tmps).run Tryz.prog (fin6 w8 B v0 v1 v2 v3 v4 v5)=.ok (.agg #[v0,v1,v2,v3,v4,v5]) (fin6 w8 B v0 v1 v2 v3 v4 v5):=by
 have h6:=fin6_at (v0:=v0) (v1:=v1) (v2:=v2) (v3:=v3) (v4:=v4) (v5:=v5) h
 have q0:=cells_cell (o:=0) h6 rfl
 have q1:=cells_cell (o:=1) h6 rfl
 have q2:=cells_cell (o:=2) h6 rfl
 have q3:=cells_cell (o:=3) h6 rfl
 have q4:=cells_cell (o:=4) h6 rfl
 have q5:=cells_cell (o:=5) h6 rfl
 simp[results,Tryz.results7,go_sem,ht,q0,q1,q2,q3,q4,q5]
theorem with_end {w W5 w':World}{φ φ':Nat→Nat→Option Value}{N R:List (List Cl)}{r d:List Cl}{Bq:Nat}{kz:Int}{bz:Bool}{nz:Int}{sz:ByteArray}{az4:Option Addr}{lz4 cz4:Nat}{az5:Option Addr}{lz5 cz5:Nat}{u0 u1 u2 u3 u4 u5:Value}
  (hφ:Dat φ w)(hB5:Below w.heap.size w W5)(hq1:w.heap.size≤Bq)(hq2:Bq<W5.heap.size)(hb:Below W5.heap.size W5 w')(hg:Grows W5 w' φ φ')(hc:CRs (rel φ') vK (c6 kz bz nz sz az4 lz4 cz4 az5 lz5 cz5) d)(hw:WoR N R r d) :
  WalkC w φ N R r (.returned (.agg #[.int .i64 kz,.bool bz,.int .i64 nz,.string sz,.slice az4 lz4 cz4,.slice az5 lz5 cz5])) (fin6 w' Bq u0 u1 u2 u3 u4 u5):=by
 have hs:=hB5.size
 refine⟨kz,bz,nz,sz,az4,lz4,cz4,az5,lz5,cz5,φ',d,rfl,fin6_below (hB5.trans (hb.mono hs)) hq1,⟨⟨hg.sub,hg.dat.other fun b o u h=>fin6_other b fun e=>?_,fun b o u h hlt=>hg.new b o u h (by omega)⟩,hc,hw⟩⟩
 have:=hφ.lt (hg.new b o u h (by omega))
 omega
set_option maxHeartbeats 4000000 in
theorem without_c (hG:Gd0 k G)(hk0:0<k)(hsz:Tryz.prog.globals.size≤k){w:World}{φ:Nat→Nat→Option Value}(hGw:G w)(hφ:Dat φ w)
  {aN:Option Addr}{lN cN:Nat}{aR:Option Addr}{lR cR:Nat}{nn:Bool}{N:List (List Cl)}{rn:Bool}{R:List (List Cl)}(hN:CR (rel φ) (.sl 2) (.slice aN lN cN) (.sl nn N))(hR:CR (rel φ) (.sl 2) (.slice aR lR cR) (.sl rn R))
  {ka:Int}{ba:Bool}{na:Int}{sa:ByteArray}{a4:Option Addr}{l4 c4:Nat}{a5:Option Addr}{l5 c5:Nat}{r:List Cl}(hr:CRs (rel φ) vK (c6 ka ba na sa a4 l4 c4 a5 l5 c5) r)(hbw:Bws vK r) :
  Calls Tryz.prog 7 #[.agg #[.int .i64 ka,.bool ba,.int .i64 na,.string sa,.slice a4 l4 c4,.slice a5 l5 c5],.slice aN lN cN,.slice aR lR cR] w (WalkC w φ N R r):=by
 have e4:((((w.alloc (.cells #[.int .i64 ka,.bool ba,.int .i64 na,.string sa,.slice a4 l4 c4,.slice a5 l5 c5] 26)).alloc (.cells #[.slice aN lN cN] 27)).alloc (.cells #[.slice aR lR cR] 27)).alloc (.cells #[.int .i64 0,.bool false,.int .i64 0,.string { data:=#[] },.slice none 0 0,.slice none 0 0] 26)).heap.size=w.heap.size+1+1+1+1:=by simp
 have n5:=cells_new ((((w.alloc (.cells #[.int .i64 ka,.bool ba,.int .i64 na,.string sa,.slice a4 l4 c4,.slice a5 l5 c5] 26)).alloc (.cells #[.slice aN lN cN] 27)).alloc (.cells #[.slice aR lR cR] 27)).alloc (.cells #[.int .i64 0,.bool false,.int .i64 0,.string { data:=#[] },.slice none 0 0,.slice none 0 0] 26)) #[.nilFunc] 53
 rw[e4] at n5
 have m5:(((((w.alloc (.cells #[.int .i64 ka,.bool ba,.int .i64 na,.string sa,.slice a4 l4 c4,.slice a5 l5 c5] 26)).alloc (.cells #[.slice aN lN cN] 27)).alloc (.cells #[.slice aR lR cR] 27)).alloc (.cells #[.int .i64 0,.bool false,.int .i64 0,.string { data:=#[] },.slice none 0 0,.slice none 0 0] 26)).alloc (.cells #[.nilFunc] 53)).cell? ⟨w.heap.size+1+1+1+1,0,none⟩=some .nilFunc:=cells_cell n5 rfl
 have f5:(((((w.alloc (.cells #[.int .i64 ka,.bool ba,.int .i64 na,.string sa,.slice a4 l4 c4,.slice a5 l5 c5] 26)).alloc (.cells #[.slice aN lN cN] 27)).alloc (.cells #[.slice aR lR cR] 27)).alloc (.cells #[.int .i64 0,.bool false,.int .i64 0,.string { data:=#[] },.slice none 0 0,.slice none 0 0] 26)).alloc (.cells #[.nilFunc] 53)).frozen? ⟨w.heap.size+1+1+1+1,0,none⟩=false:=cells_frozen n5
 clear n5 e4
 go_enter Tryz.func7,Tryz.ntmps7
 go_wp2_with fail
 have hB5:Below w.heap.size w (((((w.alloc (.cells #[.int .i64 ka,.bool ba,.int .i64 na,.string sa,.slice a4 l4 c4,.slice a5 l5 c5] 26)).alloc (.cells #[.slice aN lN cN] 27)).alloc (.cells #[.slice aR lR cR] 27)).alloc (.cells #[.int .i64 0,.bool false,.int .i64 0,.string { data:=#[] },.slice none 0 0,.slice none 0 0] 26)).alloc (.cells #[.func (.func 14) #[] #[.pointer (some ⟨w.heap.size+1,0,none⟩),.pointer (some ⟨w.heap.size+1+1,0,none⟩),.pointer (some ⟨w.heap.size+1+1+1+1,0,none⟩)]] 53)):=
  (((((Below.refl _ w).alloc (Nat.le_refl _) _).alloc (by simp) _).alloc (by simp;omega) _).alloc (by simp;omega) _).alloc (by simp;omega) _
 have n1:=cells_new (w.alloc (.cells #[.int .i64 ka,.bool ba,.int .i64 na,.string sa,.slice a4 l4 c4,.slice a5 l5 c5] 26)) #[.slice aN lN cN] 27
 have n2:=cells_new ((w.alloc (.cells #[.int .i64 ka,.bool ba,.int .i64 na,.string sa,.slice a4 l4 c4,.slice a5 l5 c5] 26)).alloc (.cells #[.slice aN lN cN] 27)) #[.slice aR lR cR] 27
 have n3:=cells_new (((w.alloc (.cells #[.int .i64 ka,.bool ba,.int .i64 na,.string sa,.slice a4 l4 c4,.slice a5 l5 c5] 26)).alloc (.cells #[.slice aN lN cN] 27)).alloc (.cells #[.slice aR lR cR] 27)) #[.int .i64 0,.bool false,.int .i64 0,.string { data:=#[] },.slice none 0 0,.slice none 0 0] 26
 have n4:=cells_new ((((w.alloc (.cells #[.int .i64 ka,.bool ba,.int .i64 na,.string sa,.slice a4 l4 c4,.slice a5 l5 c5] 26)).alloc (.cells #[.slice aN lN cN] 27)).alloc (.cells #[.slice aR lR cR] 27)).alloc (.cells #[.int .i64 0,.bool false,.int .i64 0,.string { data:=#[] },.slice none 0 0,.slice none 0 0] 26)) #[.func (.func 14) #[] #[.pointer (some ⟨w.heap.size+1,0,none⟩),.pointer (some ⟨w.heap.size+1+1,0,none⟩),.pointer (some ⟨w.heap.size+1+1+1+1,0,none⟩)]] 53
 generalize hW1:w.alloc (.cells #[.int .i64 ka,.bool ba,.int .i64 na,.string sa,.slice a4 l4 c4,.slice a5 l5 c5] 26)=W1 at hB5 n1 n2 n3 n4 ⊢
 have e1:W1.heap.size=w.heap.size+1:=by rw[← hW1];simp
 clear hW1
 generalize hW2:W1.alloc (.cells #[.slice aN lN cN] 27)=W2 at hB5 n1 n2 n3 n4 ⊢
 have e2:W2.heap.size=w.heap.size+1+1:=by rw[← hW2,World.size_alloc,e1]
 clear hW2
 have k2:∀ o k,k<W2.heap.size→(W2.alloc o).heap[k]? = W2.heap[k]? := fun o k h=>Below.heap_alloc _ _ _ h
 generalize hW3:W2.alloc (.cells #[.slice aR lR cR] 27)=W3 at hB5 n2 n3 n4 ⊢
 have e3:W3.heap.size=w.heap.size+1+1+1:=by rw[← hW3,World.size_alloc,e2]
 have j3:W3.heap[w.heap.size+1]? = some (.cells #[.slice aN lN cN] 27 (0,0)):=by rw[← hW3,k2 _ _ (by omega),← e1];exact n1
 clear hW3
 generalize hW4:W3.alloc (.cells #[.int .i64 0,.bool false,.int .i64 0,.string { data:=#[] },.slice none 0 0,.slice none 0 0] 26)=W4 at hB5 n3 n4 ⊢
 have e4:W4.heap.size=w.heap.size+1+1+1+1:=by rw[← hW4,World.size_alloc,e3]
 have j4:W4.heap[w.heap.size+1]? = some (.cells #[.slice aN lN cN] 27 (0,0)):=by rw[← hW4,Below.heap_alloc _ _ _ (by omega)];exact j3
 have i4:W4.heap[w.heap.size+1+1]? = some (.cells #[.slice aR lR cR] 27 (0,0)):=by rw[← hW4,Below.heap_alloc _ _ _ (by omega),← e2];exact n2
 clear hW4
 generalize hW5:W4.alloc (.cells #[.func (.func 14) #[] #[.pointer (some ⟨w.heap.size+1,0,none⟩),.pointer (some ⟨w.heap.size+1+1,0,none⟩),.pointer (some ⟨w.heap.size+1+1+1+1,0,none⟩)]] 53)=W5 at hB5 n4 ⊢
 have e5:W5.heap.size=w.heap.size+1+1+1+1+1:=by rw[← hW5,World.size_alloc,e4]
 have j5:W5.heap[w.heap.size+1]? = some (.cells #[.slice aN lN cN] 27 (0,0)):=by rw[← hW5,Below.heap_alloc _ _ _ (by omega)];exact j4
 have i5:W5.heap[w.heap.size+1+1]? = some (.cells #[.slice aR lR cR] 27 (0,0)):=by rw[← hW5,Below.heap_alloc _ _ _ (by omega)];exact i4
 have q5:W5.heap[w.heap.size+1+1+1]? = some (.cells #[.int .i64 0,.bool false,.int .i64 0,.string { data:=#[] },.slice none 0 0,.slice none 0 0] 26 (0,0)):=by rw[← hW5,Below.heap_alloc _ _ _ (by omega),← e3];exact n3
 rw[e4] at n4
 clear hW5
 refine (walk_n hG hk0 hsz (SizeOf.sizeOf r+1) W5 φ ka ba na sa a4 l4 c4 a5 l5 c5 r (gd_below hG hGw (hG.size w hGw) hB5) (hφ.below hB5) ⟨j5,i5,n4,hN,hR⟩ hr hbw (Nat.lt_succ_self _)).mono ?_
 rintro e w' ⟨kz,bz,nz,sz,az4,lz4,cz4,az5,lz5,cz5,φ',d,rfl,hb,H⟩
 have q':=(hb.block (w.heap.size+1+1+1) (by omega)).trans q5
 have hE:=fun u0 u1 u2 u3 u4 u5=>with_end (u0:=u0) (u1:=u1) (u2:=u2) (u3:=u3) (u4:=u4) (u5:=u5) hφ hB5 (show w.heap.size≤w.heap.size+1+1+1 by omega) (by omega) hb H.out.1 H.out.2.1 H.out.2.2
 have HE:=Go.Lib.hid hE
 have Q1:=Go.Lib.hid q'
 have r0:=cells_cell (o:=0) q' rfl
 have r1:=cells_cell (o:=1) q' rfl
 have r2:=cells_cell (o:=2) q' rfl
 have r3:=cells_cell (o:=3) q' rfl
 have r4:=cells_cell (o:=4) q' rfl
 have r5:=cells_cell (o:=5) q' rfl
 have rf:=fun o=>cells_frozen (o:=o) q'
 clear hE hG hk0 hsz hGw hφ hN hR hr hbw m5 f5 hB5 n1 n2 n3 n4 e1 e2 e3 e4 e5 k2 j3 j4 i4 j5 i5 q5 q' hb H
 go_wp2
 exact bodyPost_ret (fin6_results7 Q1.out rfl) rfl (HE.out _ _ _ _ _ _)
end Go.Proofs.Wo

namespace Go.Proofs.Wo
open Go.Exo Go.Exo.Wo Go.RowKit
set_option linter.all false
variable {k:Nat}{G:World→Prop}
theorem crs_len {F:Nat→Nat→Value→Prop}{ks:List Kd}{xs:List Value}{cs:List Cl}(h:CRs F ks xs cs):cs.length=xs.length:=by
 induction h with
 |nil=>rfl
 |cons _ _ ih=>simp[ih]
theorem bws_zero:Bws vK zeroR:=by
 intro j c kk hc hk
 match j,hc,hk with
 |0,hc,hk=>simp[zeroR] at hc hk;subst hc;subst hk;exact .sc rfl
 |1,hc,hk=>simp[zeroR] at hc hk;subst hc;subst hk;exact .sc rfl
 |2,hc,hk=>simp[zeroR] at hc hk;subst hc;subst hk;exact .sc rfl
 |3,hc,hk=>simp[zeroR] at hc hk;subst hc;subst hk;exact .sc rfl
 |4,hc,hk=>simp[zeroR] at hc hk;subst hc;subst hk;exact .sl (by simp) (fun r hr=>by cases hr)
 |5,hc,hk=>simp[zeroR] at hc hk;subst hc;subst hk;exact .sl (by simp) (fun r hr=>by cases hr)
 |j+6,hc,hk=>simp[zeroR] at hc
theorem wor_bws {N R:List (List Cl)}{a b:List Cl}(h:WoR N R a b):Bws vK a→Bws vK b:=by
 induction h with
 |gone hg he=>intro _;exact bws_nrm bws_zero he
 |@kept k b n s nl ys ml rs nl' ml' ys' rs' hg hy hl hr ih=>
  intro hb j c kk hc hk
  match j,hc,hk with
  |0,hc,hk=>simp at hc hk;subst hc;subst hk;exact .sc rfl
  |1,hc,hk=>simp at hc hk;subst hc;subst hk;exact .sc rfl
  |2,hc,hk=>simp at hc hk;subst hc;subst hk;exact .sc rfl
  |3,hc,hk=>simp at hc hk;subst hc;subst hk;exact .sc rfl
  |4,hc,hk=>
   simp at hc hk;subst hc;subst hk
   exact bw_nrm (hb 4 _ _ rfl rfl) _ (by simp[nrm,hy])
  |5,hc,hk=>
   simp at hc hk;subst hc;subst hk
   obtain⟨h1,h2⟩:=Bw.open (hb 5 (.sl ml rs) (.sl 26) rfl rfl)
   refine .sl (by rw[hl];exact h1) fun r' hr'=>?_
   obtain⟨i,hi,hri⟩:=List.getElem_of_mem hr'
   have h3:rs'[i]? = some r':=by rw[List.getElem?_eq_getElem hi,hri]
   have h4:=List.getElem?_eq_getElem (l:=rs) (i:=i) (by omega)
   exact ih i _ _ h4 h3 (h2 _ (List.getElem_mem _))
  |j+6,hc,hk=>simp at hc
theorem great_c (hG:Gd0 k G)(hk0:0<k)(hsz:Tryz.prog.globals.size≤k){w:World}{φ:Nat→Nat→Option Value}(hGw:G w)(hφ:Dat φ w){y0 y1 y2 y3 y4 y5:Value}{r:List Cl}(hy:CRs (rel φ) vK [y0,y1,y2,y3,y4,y5] r) :
  Calls Tryz.prog 4 #[.agg #[y0,y1,y2,y3,y4,y5]] w fun e w'=>∃ b,ContC w b e w':=by
 obtain⟨tb,F,h1,h2⟩:=great_n hG hk0 hsz (SizeOf.sizeOf r+1)
 have hS:=Ctr.Sound.spec (by kernel_rfl) hG hk0 hsz h1 rfl
 have ha:ArgR (rel φ) [vA] [.agg [y0,y1,y2,y3,y4,y5].toArray] (r++[]):=.agg hy .nil
 rw[List.append_nil] at ha
 refine (hS w φ _ r hGw hφ ha (Nat.lt_succ_self _)).mono ?_
 rintro e w' ⟨x,φ',rfl,_,_,_,h4,h5⟩
 have h5':ArgR (rel φ') [.one .bool] [x] (F r):=h5
 obtain⟨b,e1⟩:=h2 r
 rw[e1] at h5'
 cases h5' with
 |one h6 _=>cases h6;exact⟨b,rfl,Below.ofExt h4⟩
def NumC (w:World)(n:Int)(e:Ending)(w':World):Prop:=e=.returned (.int .i64 n)∧Below w.heap.size w w'
theorem check_c (hG:Gd0 k G)(hk0:0<k)(hsz:Tryz.prog.globals.size≤k):∃ u:List UInt8→Bool,∀ {w:World}{φ:Nat→Nat→Option Value}(_:G w)(_:Dat φ w){y0 y1 y2 y3 y4 y5:Value}{r:List Cl}(_:CRs (rel φ) vK [y0,y1,y2,y3,y4,y5] r),
  Calls Tryz.prog 5 #[.agg #[y0,y1,y2,y3,y4,y5]] w (NumC w (checkN u r)):=by
 obtain⟨u,hu⟩:=check_x hG hk0 hsz
 refine⟨u,fun {w φ} hGw hφ {y0 y1 y2 y3 y4 y5 r} hy=>?_⟩
 obtain⟨tb,h1⟩:=hu (SizeOf.sizeOf r+1)
 have hS:=Ctr.Sound.spec (by kernel_rfl) hG hk0 hsz h1 rfl
 have ha:ArgR (rel φ) [vA] [.agg [y0,y1,y2,y3,y4,y5].toArray] (r++[]):=.agg hy .nil
 rw[List.append_nil] at ha
 refine (hS w φ _ r hGw hφ ha (Nat.lt_succ_self _)).mono ?_
 rintro e w' ⟨x,φ',rfl,_,_,_,h4,h5⟩
 have h5':ArgR (rel φ') [.one iK] [x] [.int (checkN u r)]:=h5
 cases h5' with
 |one h6 _=>cases h6;exact⟨rfl,Below.ofExt h4⟩
open Classical in
theorem alike_c (hG:Gd0 k G)(hk0:0<k)(hsz:Tryz.prog.globals.size≤k){w:World}{φ:Nat→Nat→Option Value}(hGw:G w)(hφ:Dat φ w){y0 y1 y2 y3 y4 y5 z0 z1 z2 z3 z4 z5:Value}{r d:List Cl}(hy:CRs (rel φ) vK [y0,y1,y2,y3,y4,y5] r)(hz:CRs (rel φ) vK [z0,z1,z2,z3,z4,z5] d) :
  Calls Tryz.prog 8 #[.agg #[y0,y1,y2,y3,y4,y5],.agg #[z0,z1,z2,z3,z4,z5]] w (ContC w (decide (nrmR r=nrmR d))):=by
 obtain⟨tb,h1⟩:=alike_ok hG hk0 hsz (SizeOf.sizeOf (r++d)+1)
 have hS:=Ctr.Sound.spec (by kernel_rfl) hG hk0 hsz h1 rfl
 have ha:ArgR (rel φ) [vA,vA] [.agg [y0,y1,y2,y3,y4,y5].toArray,.agg [z0,z1,z2,z3,z4,z5].toArray] (r++(d++[])):=.agg hy (.agg hz .nil)
 rw[List.append_nil] at ha
 refine (hS w φ _ _ hGw hφ ha (Nat.lt_succ_self _)).mono ?_
 rintro e w' ⟨x,φ',rfl,_,_,_,h4,h5⟩
 have h5':ArgR (rel φ') [.one .bool] [x] (alikeF (r++d)):=h5
 have hl:r.length=6:=crs_len hy
 have e1:alikeF (r++d)=[.bool (decide (nrmR r=nrmR d))]:=by
  unfold alikeF
  rw[List.take_append_of_le_length (by omega),List.drop_append_of_le_length (by omega),List.take_of_length_le (by omega),List.drop_of_length_le (by omega),List.nil_append]
 rw[e1] at h5'
 cases h5' with
 |one h6 _=>cases h6;exact⟨rfl,Below.ofExt h4⟩
theorem rwo_c (hG:Gd0 k G)(hk0:0<k)(hsz:Tryz.prog.globals.size≤k){w:World}{φ:Nat→Nat→Option Value}(hGw:G w)(hφ:Dat φ w){x1 x2:Value}{nn:Bool}{N:List (List Cl)}{rn:Bool}{R:List (List Cl)}(hN:CR (rel φ) (.sl 2) x1 (.sl nn N))(hR:CR (rel φ) (.sl 2) x2 (.sl rn R))
  {y0 y1 y2 y3 y4 y5:Value}{r:List Cl}(hy:CRs (rel φ) vK [y0,y1,y2,y3,y4,y5] r)(hw:Wts vK r)(hbw:Bws vK r) :
  Calls Tryz.prog 9 #[.agg #[y0,y1,y2,y3,y4,y5],x1,x2] w (WalkC w φ N R r):=by
 obtain⟨tb,F,h1,h2⟩:=rwo_n hG hk0 hsz (SizeOf.sizeOf r+1)
 have hS:=Ctr.Sound.spec (by kernel_rfl) hG hk0 hsz h1 rfl
 have ha:ArgR (rel φ) [vA,.one (.sl 2),.one (.sl 2)] [.agg [y0,y1,y2,y3,y4,y5].toArray,x1,x2] (r++[.sl nn N,.sl rn R]):=.agg hy (.one hN (.one hR .nil))
 obtain⟨kz,bz,nz,sz,nlz,ysz,mlz,rsz,rfl,-⟩:=row6 hw
 refine (hS w φ _ _ hGw hφ ha ⟨hbw,Nat.lt_succ_self _⟩).mono ?_
 rintro e w' ⟨x,φ',rfl,h1,h3,h6,h4,h5⟩
 have h5':ArgR (rel φ') [vA] [x] (F [.int kz,.bool bz,.int nz,.str sz,.sl nlz ysz,.sl mlz rsz,.sl nn N,.sl rn R]):=h5
 have hwr:=(h2 _).2 _ _ _ _ _ _ _ _ nn N rn R rfl hw
 generalize F [.int kz,.bool bz,.int nz,.str sz,.sl nlz ysz,.sl mlz rsz,.sl nn N,.sl rn R]=d at h5' hwr
 cases h5' with
 |agg h6' h7=>
  cases h7
  obtain⟨z0,z1,z2,z3,z4,z5,rfl⟩:=crs6 h6'
  obtain⟨k,b,n,s,a4,l4,c4,a5,l5,c5,rfl,rfl,rfl,rfl,rfl,rfl⟩:=row_form h6'
  rw[List.append_nil] at hwr
  exact⟨_,_,_,_,_,_,_,_,_,_,φ',_,rfl,Below.ofExt h4,Go.Lib.hid ⟨⟨h1,h3,h6⟩,h6',hwr⟩⟩
end Go.Proofs.Wo

namespace Go.Proofs.Wo
open Go.Exo Go.Exo.Wo Go.RowKit
set_option maxRecDepth 100000
set_option linter.all false
variable {k:Nat}{G:World→Prop}
set_option maxHeartbeats 4000000
open Classical in
theorem alike_y (hG:Gd0 k G)(hk0:0<k)(hsz:Tryz.prog.globals.size≤k){w:World}{φ:Nat→Nat→Option Value}(hGw:G w)(hφ:Dat φ w){y0 y1 y2 y3 y4 y5 z0 z1 z2 z3 z4 z5:Value}{r d:List Cl}(hy:CRs (rel φ) vK [y0,y1,y2,y3,y4,y5] r)(hz:CRs (rel φ) vK [z0,z1,z2,z3,z4,z5] d)(he:nrmR r=nrmR d) :
  Calls Tryz.prog 8 #[.agg #[y0,y1,y2,y3,y4,y5],.agg #[z0,z1,z2,z3,z4,z5]] w (ContC w true):=by
 have h:=alike_c hG hk0 hsz hGw hφ hy hz
 rwa [decide_eq_true he] at h
theorem law_c (hG:Gd0 k G)(hk0:0<k)(hsz:Tryz.prog.globals.size≤k)(hK:∀ w',G w'→Calls Tryz.prog 6 #[] w' (ContC w' true)){w:World}{φ:Nat→Nat→Option Value}(hGw:G w)(hφ:Dat φ w)
  {aN:Option Addr}{lN cN:Nat}{aR:Option Addr}{lR cR:Nat}{nn:Bool}{N:List (List Cl)}{rn:Bool}{R:List (List Cl)}(hN:CR (rel φ) (.sl 2) (.slice aN lN cN) (.sl nn N))(hR:CR (rel φ) (.sl 2) (.slice aR lR cR) (.sl rn R))
  {ka:Int}{ba:Bool}{na:Int}{sa:ByteArray}{a4:Option Addr}{l4 c4:Nat}{a5:Option Addr}{l5 c5:Nat}{r:List Cl}(hr:CRs (rel φ) vK (c6 ka ba na sa a4 l4 c4 a5 l5 c5) r) :
  Calls Tryz.prog 3 #[.agg #[.int .i64 ka,.bool ba,.int .i64 na,.string sa,.slice a4 l4 c4,.slice a5 l5 c5],.slice aN lN cN,.slice aR lR cR] w (ContC w true):=by
 obtain⟨u,hu⟩:=check_c hG hk0 hsz
 have hkw:=hG.size w hGw
 have n0:=cells_new w #[.int .i64 ka,.bool ba,.int .i64 na,.string sa,.slice a4 l4 c4,.slice a5 l5 c5] 26
 have hB0:Below w.heap.size w (w.alloc (.cells #[.int .i64 ka,.bool ba,.int .i64 na,.string sa,.slice a4 l4 c4,.slice a5 l5 c5] 26)):=(Below.refl _ w).alloc (Nat.le_refl _) _
 have e0:(w.alloc (.cells #[.int .i64 ka,.bool ba,.int .i64 na,.string sa,.slice a4 l4 c4,.slice a5 l5 c5] 26)).heap.size=w.heap.size+1:=by simp
 go_enter Tryz.func3,Tryz.ntmps3
 go_wp2_with fail
 generalize hW0:w.alloc (.cells #[.int .i64 ka,.bool ba,.int .i64 na,.string sa,.slice a4 l4 c4,.slice a5 l5 c5] 26)=W0 at hB0 n0 e0 ⊢
 clear hW0
 have G0:G W0:=gd_below hG hGw hkw hB0
 have φ0:Dat φ W0:=hφ.below hB0
 refine (great_c hG hk0 hsz G0 φ0 hr).mono ?_
 rintro e W1 ⟨bg,rfl,hb1⟩
 have hB1:Below w.heap.size w W1:=hB0.trans (hb1.mono (by omega))
 have n1:=(hb1.block w.heap.size (by omega)).trans n0
 have e1:w.heap.size+1≤W1.heap.size:=by have:=hb1.size;omega
 have G1:G W1:=gd_below hG hGw hkw hB1
 have φ1:Dat φ W1:=hφ.below hB1
 clear G0 φ0 hb1 n0 hB0 e0
 cases bg with
 |true=>
  go_wp2_with (fail)
  refine (hK _ G1).mono ?_
  rintro e W2 ⟨rfl,hb2⟩
  have hB2:Below w.heap.size w W2:=hB1.trans (hb2.mono (by omega))
  clear hG hK hu
  go_wp2_with (fail)
  exact bodyPost_ret (v:=.bool true) (by simp[results,Tryz.results3,go_sem]) rfl ⟨rfl,hB2⟩
 |false=>
  have r0:=cells_cell (o:=0) n1 rfl
  have r1:=cells_cell (o:=1) n1 rfl
  have r2:=cells_cell (o:=2) n1 rfl
  have r3:=cells_cell (o:=3) n1 rfl
  have r4:=cells_cell (o:=4) n1 rfl
  have r5:=cells_cell (o:=5) n1 rfl
  go_wp2_with (fail)
  refine (hu G1 φ1 hr).mono ?_
  rintro e W2 ⟨rfl,hb2⟩
  have hB2:Below w.heap.size w W2:=hB1.trans (hb2.mono (by omega))
  have n2:=(hb2.block w.heap.size (by omega)).trans n1
  have e2:w.heap.size+1≤W2.heap.size:=by have:=hb2.size;omega
  have G2:G W2:=gd_below hG hGw hkw hB2
  have φ2:Dat φ W2:=hφ.below hB2
  clear G1 φ1 hb2 n1 hB1 e1 r0 r1 r2 r3 r4 r5
  by_cases hc:checkN u r=0
  ·have hbw:Bws vK r:=check_fits hr.wt hc
   rw[hc]
   by_cases hn:(20:Int)<(lN:Int)
   ·go_wp2_with (fail)
    refine (hK _ G2).mono ?_
    rintro e W3 ⟨rfl,hb3⟩
    have hB3:Below w.heap.size w W3:=hB2.trans (hb3.mono (by omega))
    clear hG hK hu
    go_wp2_with (fail)
    exact bodyPost_ret (v:=.bool true) (by simp[results,Tryz.results3,go_sem]) rfl ⟨rfl,hB3⟩
   ·by_cases hr20:(20:Int)<(lR:Int)
    ·go_wp2_with (fail)
     refine (hK _ G2).mono ?_
     rintro e W3 ⟨rfl,hb3⟩
     have hB3:Below w.heap.size w W3:=hB2.trans (hb3.mono (by omega))
     clear hG hK hu
     go_wp2_with (fail)
     exact bodyPost_ret (v:=.bool true) (by simp[results,Tryz.results3,go_sem]) rfl ⟨rfl,hB3⟩
    ·have r0:=cells_cell (o:=0) n2 rfl
     have r1:=cells_cell (o:=1) n2 rfl
     have r2:=cells_cell (o:=2) n2 rfl
     have r3:=cells_cell (o:=3) n2 rfl
     have r4:=cells_cell (o:=4) n2 rfl
     have r5:=cells_cell (o:=5) n2 rfl
     go_wp2_with (fail)
     refine (without_c hG hk0 hsz G2 φ2 hN hR hr hbw).mono ?_
     rintro e W3 ⟨k3,b3,n3',s3,p4,q4,g4,p5,q5,g5,φ3,d3,rfl,hb3,H3⟩
     have hB3:Below w.heap.size w W3:=hB2.trans (hb3.mono (by omega))
     have e3:w.heap.size+1≤W3.heap.size:=by have:=hb3.size;omega
     have n3:=(hb3.block w.heap.size (by omega)).trans n2
     have z4:=cells_new W3 #[.int .i64 k3,.bool b3,.int .i64 n3',.string s3,.slice p4 q4 g4,.slice p5 q5 g5] 26
     have hB4:Below w.heap.size w (W3.alloc (.cells #[.int .i64 k3,.bool b3,.int .i64 n3',.string s3,.slice p4 q4 g4,.slice p5 q5 g5] 26)):=hB3.alloc (by omega) _
     have φ4:Dat φ3 (W3.alloc (.cells #[.int .i64 k3,.bool b3,.int .i64 n3',.string s3,.slice p4 q4 g4,.slice p5 q5 g5] 26)):=H3.out.1.dat.below ((Below.refl _ _).alloc (Nat.le_refl _) _)
     have n4:(W3.alloc (.cells #[.int .i64 k3,.bool b3,.int .i64 n3',.string s3,.slice p4 q4 g4,.slice p5 q5 g5] 26)).heap[w.heap.size]? = _:=(Below.heap_alloc _ _ _ (by omega)).trans n3
     have e4:(W3.alloc (.cells #[.int .i64 k3,.bool b3,.int .i64 n3',.string s3,.slice p4 q4 g4,.slice p5 q5 g5] 26)).heap.size=W3.heap.size+1:=by simp
     have hC3:=H3.out.2.1
     have hD3:=H3.out.2.2
     have hS3:=H3.out.1.sub
     clear r0 r1 r2 r3 r4 r5
     go_wp2_with (fail)
     generalize W3.alloc (.cells #[.int .i64 k3,.bool b3,.int .i64 n3',.string s3,.slice p4 q4 g4,.slice p5 q5 g5] 26)=W4 at z4 hB4 φ4 n4 e4 ⊢
     have G4:G W4:=gd_below hG hGw hkw hB4
     generalize W3.heap.size=B3 at e3 z4 e4 ⊢
     refine (without_c hG hk0 hsz G4 φ4 (hN.mono hS3) (hR.mono hS3) hC3 (wor_bws hD3 hbw)).mono ?_
     rintro e W5 ⟨k6,b6,n6',s6,t4,u4,v4,t5,u5,v5,φ5,d5,rfl,hb5,H5⟩
     have hB5:Below w.heap.size w W5:=hB4.trans (hb5.mono (by omega))
     have e5:B3+1≤W5.heap.size:=by have:=hb5.size;omega
     have n5:=(hb5.block w.heap.size (by omega)).trans n4
     have z5:=(hb5.block B3 (by omega)).trans z4
     have z6:=cells_new W5 #[.int .i64 k6,.bool b6,.int .i64 n6',.string s6,.slice t4 u4 v4,.slice t5 u5 v5] 26
     have hB6:Below w.heap.size w (W5.alloc (.cells #[.int .i64 k6,.bool b6,.int .i64 n6',.string s6,.slice t4 u4 v4,.slice t5 u5 v5] 26)):=hB5.alloc (by omega) _
     have φ6:Dat φ5 (W5.alloc (.cells #[.int .i64 k6,.bool b6,.int .i64 n6',.string s6,.slice t4 u4 v4,.slice t5 u5 v5] 26)):=H5.out.1.dat.below ((Below.refl _ _).alloc (Nat.le_refl _) _)
     have n6:(W5.alloc (.cells #[.int .i64 k6,.bool b6,.int .i64 n6',.string s6,.slice t4 u4 v4,.slice t5 u5 v5] 26)).heap[w.heap.size]? = _:=(Below.heap_alloc _ _ _ (by omega)).trans n5
     have y6:(W5.alloc (.cells #[.int .i64 k6,.bool b6,.int .i64 n6',.string s6,.slice t4 u4 v4,.slice t5 u5 v5] 26)).heap[B3]? = _:=(Below.heap_alloc _ _ _ (by omega)).trans z5
     have e6:(W5.alloc (.cells #[.int .i64 k6,.bool b6,.int .i64 n6',.string s6,.slice t4 u4 v4,.slice t5 u5 v5] 26)).heap.size=W5.heap.size+1:=by simp
     have hC5:=H5.out.2.1
     have hD5:=H5.out.2.2
     have hS5:=H5.out.1.sub
     have r0:=cells_cell (o:=0) n6 rfl
     have r1:=cells_cell (o:=1) n6 rfl
     have r2:=cells_cell (o:=2) n6 rfl
     have r3:=cells_cell (o:=3) n6 rfl
     have r4:=cells_cell (o:=4) n6 rfl
     have r5:=cells_cell (o:=5) n6 rfl
     go_wp2_with (fail)
     clear r0 r1 r2 r3 r4 r5
     generalize W5.alloc (.cells #[.int .i64 k6,.bool b6,.int .i64 n6',.string s6,.slice t4 u4 v4,.slice t5 u5 v5] 26)=W6 at z6 hB6 φ6 n6 y6 e6 ⊢
     have G6:G W6:=gd_below hG hGw hkw hB6
     generalize W5.heap.size=B5 at e5 z6 e6 ⊢
     have hS35:∀ b o v,φ b o=some v→φ5 b o=some v:=fun b o v h=>hS5 _ _ _ (hS3 _ _ _ h)
     refine (without_c hG hk0 hsz G6 φ6 (nn:=true) (N:=[]) (rn:=true) (R:=[]) (.nil 2) (.nil 2) (hr.mono hS35) hbw).mono ?_
     rintro e W7 ⟨k9,b9,n9',s9,f4,g4',h4,f5,g5',h5,φ7,d7,rfl,hb7,H7⟩
     have hB7:Below w.heap.size w W7:=hB6.trans (hb7.mono (by omega))
     have e7:B5+1≤W7.heap.size:=by have:=hb7.size;omega
     have n7:=(hb7.block w.heap.size (by omega)).trans n6
     have y7:=(hb7.block B3 (by omega)).trans y6
     have z7:=(hb7.block B5 (by omega)).trans z6
     have z8:=cells_new W7 #[.int .i64 k9,.bool b9,.int .i64 n9',.string s9,.slice f4 g4' h4,.slice f5 g5' h5] 26
     have hB8:Below w.heap.size w (W7.alloc (.cells #[.int .i64 k9,.bool b9,.int .i64 n9',.string s9,.slice f4 g4' h4,.slice f5 g5' h5] 26)):=hB7.alloc (by omega) _
     have φ8:Dat φ7 (W7.alloc (.cells #[.int .i64 k9,.bool b9,.int .i64 n9',.string s9,.slice f4 g4' h4,.slice f5 g5' h5] 26)):=H7.out.1.dat.below ((Below.refl _ _).alloc (Nat.le_refl _) _)
     have n8:(W7.alloc (.cells #[.int .i64 k9,.bool b9,.int .i64 n9',.string s9,.slice f4 g4' h4,.slice f5 g5' h5] 26)).heap[w.heap.size]? = _:=(Below.heap_alloc _ _ _ (by omega)).trans n7
     have y8:(W7.alloc (.cells #[.int .i64 k9,.bool b9,.int .i64 n9',.string s9,.slice f4 g4' h4,.slice f5 g5' h5] 26)).heap[B3]? = _:=(Below.heap_alloc _ _ _ (by omega)).trans y7
     have x8:(W7.alloc (.cells #[.int .i64 k9,.bool b9,.int .i64 n9',.string s9,.slice f4 g4' h4,.slice f5 g5' h5] 26)).heap[B5]? = _:=(Below.heap_alloc _ _ _ (by omega)).trans z7
     have e8:(W7.alloc (.cells #[.int .i64 k9,.bool b9,.int .i64 n9',.string s9,.slice f4 g4' h4,.slice f5 g5' h5] 26)).heap.size=W7.heap.size+1:=by simp
     have hC7:=H7.out.2.1
     have hD7:=H7.out.2.2
     have hS7:=H7.out.1.sub
     go_wp2_with (fail)
     generalize W7.alloc (.cells #[.int .i64 k9,.bool b9,.int .i64 n9',.string s9,.slice f4 g4' h4,.slice f5 g5' h5] 26)=W8 at z8 hB8 φ8 n8 y8 x8 e8 ⊢
     generalize W7.heap.size=B7 at e7 z8 e8 ⊢
     have KB:∀ W,Below W8.heap.size W8 W→(Below W8.heap.size W8 W∧W.cell? ⟨w.heap.size,0,none⟩=some (.int .i64 ka)∧W.cell? ⟨w.heap.size,1,none⟩=some (.bool ba)∧W.cell? ⟨w.heap.size,2,none⟩=some (.int .i64 na)∧W.cell? ⟨w.heap.size,3,none⟩=some (.string sa)∧W.cell? ⟨w.heap.size,4,none⟩=some (.slice a4 l4 c4)∧W.cell? ⟨w.heap.size,5,none⟩=some (.slice a5 l5 c5)∧W.cell? ⟨B3,0,none⟩=some (.int .i64 k3)∧W.cell? ⟨B3,1,none⟩=some (.bool b3)∧W.cell? ⟨B3,2,none⟩=some (.int .i64 n3')∧W.cell? ⟨B3,3,none⟩=some (.string s3)∧W.cell? ⟨B3,4,none⟩=some (.slice p4 q4 g4)∧W.cell? ⟨B3,5,none⟩=some (.slice p5 q5 g5)∧W.cell? ⟨B5,0,none⟩=some (.int .i64 k6)∧W.cell? ⟨B5,1,none⟩=some (.bool b6)∧W.cell? ⟨B5,2,none⟩=some (.int .i64 n6')∧W.cell? ⟨B5,3,none⟩=some (.string s6)∧W.cell? ⟨B5,4,none⟩=some (.slice t4 u4 v4)∧W.cell? ⟨B5,5,none⟩=some (.slice t5 u5 v5)∧W.cell? ⟨B7,0,none⟩=some (.int .i64 k9)∧W.cell? ⟨B7,1,none⟩=some (.bool b9)∧W.cell? ⟨B7,2,none⟩=some (.int .i64 n9')∧W.cell? ⟨B7,3,none⟩=some (.string s9)∧W.cell? ⟨B7,4,none⟩=some (.slice f4 g4' h4)∧W.cell? ⟨B7,5,none⟩=some (.slice f5 g5' h5)):=fun W hb=>⟨hb,(hb.cell (p:=⟨w.heap.size,0,none⟩) (by show w.heap.size<_;omega)).trans (cells_cell (o:=0) n8 rfl),(hb.cell (p:=⟨w.heap.size,1,none⟩) (by show w.heap.size<_;omega)).trans (cells_cell (o:=1) n8 rfl),(hb.cell (p:=⟨w.heap.size,2,none⟩) (by show w.heap.size<_;omega)).trans (cells_cell (o:=2) n8 rfl),(hb.cell (p:=⟨w.heap.size,3,none⟩) (by show w.heap.size<_;omega)).trans (cells_cell (o:=3) n8 rfl),(hb.cell (p:=⟨w.heap.size,4,none⟩) (by show w.heap.size<_;omega)).trans (cells_cell (o:=4) n8 rfl),(hb.cell (p:=⟨w.heap.size,5,none⟩) (by show w.heap.size<_;omega)).trans (cells_cell (o:=5) n8 rfl),(hb.cell (p:=⟨B3,0,none⟩) (by show B3<_;omega)).trans (cells_cell (o:=0) y8 rfl),(hb.cell (p:=⟨B3,1,none⟩) (by show B3<_;omega)).trans (cells_cell (o:=1) y8 rfl),(hb.cell (p:=⟨B3,2,none⟩) (by show B3<_;omega)).trans (cells_cell (o:=2) y8 rfl),(hb.cell (p:=⟨B3,3,none⟩) (by show B3<_;omega)).trans (cells_cell (o:=3) y8 rfl),(hb.cell (p:=⟨B3,4,none⟩) (by show B3<_;omega)).trans (cells_cell (o:=4) y8 rfl),(hb.cell (p:=⟨B3,5,none⟩) (by show B3<_;omega)).trans (cells_cell (o:=5) y8 rfl),(hb.cell (p:=⟨B5,0,none⟩) (by show B5<_;omega)).trans (cells_cell (o:=0) x8 rfl),(hb.cell (p:=⟨B5,1,none⟩) (by show B5<_;omega)).trans (cells_cell (o:=1) x8 rfl),(hb.cell (p:=⟨B5,2,none⟩) (by show B5<_;omega)).trans (cells_cell (o:=2) x8 rfl),(hb.cell (p:=⟨B5,3,none⟩) (by show B5<_;omega)).trans (cells_cell (o:=3) x8 rfl),(hb.cell (p:=⟨B5,4,none⟩) (by show B5<_;omega)).trans (cells_cell (o:=4) x8 rfl),(hb.cell (p:=⟨B5,5,none⟩) (by show B5<_;omega)).trans (cells_cell (o:=5) x8 rfl),(hb.cell (p:=⟨B7,0,none⟩) (by show B7<_;omega)).trans (cells_cell (o:=0) z8 rfl),(hb.cell (p:=⟨B7,1,none⟩) (by show B7<_;omega)).trans (cells_cell (o:=1) z8 rfl),(hb.cell (p:=⟨B7,2,none⟩) (by show B7<_;omega)).trans (cells_cell (o:=2) z8 rfl),(hb.cell (p:=⟨B7,3,none⟩) (by show B7<_;omega)).trans (cells_cell (o:=3) z8 rfl),(hb.cell (p:=⟨B7,4,none⟩) (by show B7<_;omega)).trans (cells_cell (o:=4) z8 rfl),(hb.cell (p:=⟨B7,5,none⟩) (by show B7<_;omega)).trans (cells_cell (o:=5) z8 rfl)⟩
     have GS:∀ W,Below W8.heap.size W8 W→G W:=fun W hb=>gd_below hG hGw hkw (hB8.trans (hb.mono hB8.size))
     have φS:∀ W,Below W8.heap.size W8 W→Dat φ7 W:=fun W hb=>φ8.below hb
     have hS07:∀ b o v,φ b o=some v→φ7 b o=some v:=fun b o v h=>hS7 _ _ _ (hS35 _ _ _ h)
     have KR:Hid (∀ W,(Below W8.heap.size W8 W∧W.cell? ⟨w.heap.size,0,none⟩=some (.int .i64 ka)∧W.cell? ⟨w.heap.size,1,none⟩=some (.bool ba)∧W.cell? ⟨w.heap.size,2,none⟩=some (.int .i64 na)∧W.cell? ⟨w.heap.size,3,none⟩=some (.string sa)∧W.cell? ⟨w.heap.size,4,none⟩=some (.slice a4 l4 c4)∧W.cell? ⟨w.heap.size,5,none⟩=some (.slice a5 l5 c5)∧W.cell? ⟨B3,0,none⟩=some (.int .i64 k3)∧W.cell? ⟨B3,1,none⟩=some (.bool b3)∧W.cell? ⟨B3,2,none⟩=some (.int .i64 n3')∧W.cell? ⟨B3,3,none⟩=some (.string s3)∧W.cell? ⟨B3,4,none⟩=some (.slice p4 q4 g4)∧W.cell? ⟨B3,5,none⟩=some (.slice p5 q5 g5)∧W.cell? ⟨B5,0,none⟩=some (.int .i64 k6)∧W.cell? ⟨B5,1,none⟩=some (.bool b6)∧W.cell? ⟨B5,2,none⟩=some (.int .i64 n6')∧W.cell? ⟨B5,3,none⟩=some (.string s6)∧W.cell? ⟨B5,4,none⟩=some (.slice t4 u4 v4)∧W.cell? ⟨B5,5,none⟩=some (.slice t5 u5 v5)∧W.cell? ⟨B7,0,none⟩=some (.int .i64 k9)∧W.cell? ⟨B7,1,none⟩=some (.bool b9)∧W.cell? ⟨B7,2,none⟩=some (.int .i64 n9')∧W.cell? ⟨B7,3,none⟩=some (.string s9)∧W.cell? ⟨B7,4,none⟩=some (.slice f4 g4' h4)∧W.cell? ⟨B7,5,none⟩=some (.slice f5 g5' h5))→Calls Tryz.prog 9 #[.agg #[.int .i64 ka,.bool ba,.int .i64 na,.string sa,.slice a4 l4 c4,.slice a5 l5 c5],.slice aN lN cN,.slice aR lR cR] W fun e W'=>∃ kz bz nz sz az4 lz4 cz4 az5 lz5 cz5,e=.returned (.agg #[.int .i64 kz,.bool bz,.int .i64 nz,.string sz,.slice az4 lz4 cz4,.slice az5 lz5 cz5])∧(Below W8.heap.size W8 W'∧W'.cell? ⟨w.heap.size,0,none⟩=some (.int .i64 ka)∧W'.cell? ⟨w.heap.size,1,none⟩=some (.bool ba)∧W'.cell? ⟨w.heap.size,2,none⟩=some (.int .i64 na)∧W'.cell? ⟨w.heap.size,3,none⟩=some (.string sa)∧W'.cell? ⟨w.heap.size,4,none⟩=some (.slice a4 l4 c4)∧W'.cell? ⟨w.heap.size,5,none⟩=some (.slice a5 l5 c5)∧W'.cell? ⟨B3,0,none⟩=some (.int .i64 k3)∧W'.cell? ⟨B3,1,none⟩=some (.bool b3)∧W'.cell? ⟨B3,2,none⟩=some (.int .i64 n3')∧W'.cell? ⟨B3,3,none⟩=some (.string s3)∧W'.cell? ⟨B3,4,none⟩=some (.slice p4 q4 g4)∧W'.cell? ⟨B3,5,none⟩=some (.slice p5 q5 g5)∧W'.cell? ⟨B5,0,none⟩=some (.int .i64 k6)∧W'.cell? ⟨B5,1,none⟩=some (.bool b6)∧W'.cell? ⟨B5,2,none⟩=some (.int .i64 n6')∧W'.cell? ⟨B5,3,none⟩=some (.string s6)∧W'.cell? ⟨B5,4,none⟩=some (.slice t4 u4 v4)∧W'.cell? ⟨B5,5,none⟩=some (.slice t5 u5 v5)∧W'.cell? ⟨B7,0,none⟩=some (.int .i64 k9)∧W'.cell? ⟨B7,1,none⟩=some (.bool b9)∧W'.cell? ⟨B7,2,none⟩=some (.int .i64 n9')∧W'.cell? ⟨B7,3,none⟩=some (.string s9)∧W'.cell? ⟨B7,4,none⟩=some (.slice f4 g4' h4)∧W'.cell? ⟨B7,5,none⟩=some (.slice f5 g5' h5))∧
       Hid (Calls Tryz.prog 8 #[.agg #[.int .i64 k3,.bool b3,.int .i64 n3',.string s3,.slice p4 q4 g4,.slice p5 q5 g5],.agg #[.int .i64 kz,.bool bz,.int .i64 nz,.string sz,.slice az4 lz4 cz4,.slice az5 lz5 cz5]] W' fun e W''=>e=.returned (.bool true)∧(Below W8.heap.size W8 W''∧W''.cell? ⟨w.heap.size,0,none⟩=some (.int .i64 ka)∧W''.cell? ⟨w.heap.size,1,none⟩=some (.bool ba)∧W''.cell? ⟨w.heap.size,2,none⟩=some (.int .i64 na)∧W''.cell? ⟨w.heap.size,3,none⟩=some (.string sa)∧W''.cell? ⟨w.heap.size,4,none⟩=some (.slice a4 l4 c4)∧W''.cell? ⟨w.heap.size,5,none⟩=some (.slice a5 l5 c5)∧W''.cell? ⟨B3,0,none⟩=some (.int .i64 k3)∧W''.cell? ⟨B3,1,none⟩=some (.bool b3)∧W''.cell? ⟨B3,2,none⟩=some (.int .i64 n3')∧W''.cell? ⟨B3,3,none⟩=some (.string s3)∧W''.cell? ⟨B3,4,none⟩=some (.slice p4 q4 g4)∧W''.cell? ⟨B3,5,none⟩=some (.slice p5 q5 g5)∧W''.cell? ⟨B5,0,none⟩=some (.int .i64 k6)∧W''.cell? ⟨B5,1,none⟩=some (.bool b6)∧W''.cell? ⟨B5,2,none⟩=some (.int .i64 n6')∧W''.cell? ⟨B5,3,none⟩=some (.string s6)∧W''.cell? ⟨B5,4,none⟩=some (.slice t4 u4 v4)∧W''.cell? ⟨B5,5,none⟩=some (.slice t5 u5 v5)∧W''.cell? ⟨B7,0,none⟩=some (.int .i64 k9)∧W''.cell? ⟨B7,1,none⟩=some (.bool b9)∧W''.cell? ⟨B7,2,none⟩=some (.int .i64 n9')∧W''.cell? ⟨B7,3,none⟩=some (.string s9)∧W''.cell? ⟨B7,4,none⟩=some (.slice f4 g4' h4)∧W''.cell? ⟨B7,5,none⟩=some (.slice f5 g5' h5)))):=fun W hS=>by
      refine (rwo_c hG hk0 hsz (GS _ hS.1) (φS _ hS.1) (hN.mono hS07) (hR.mono hS07) (hr.mono hS07) hr.wt hbw).mono ?_
      rintro e W' ⟨kz,bz,nz,sz,az4,lz4,cz4,az5,lz5,cz5,φ',d,rfl,hb,HD⟩
      have hb':Below W8.heap.size W8 W':=hS.1.trans (hb.mono hS.1.size)
      refine⟨_,_,_,_,_,_,_,_,_,_,rfl,KB _ hb',Go.Lib.hid ?_⟩
      refine (alike_y hG hk0 hsz (GS _ hb') HD.out.1.dat (hC3.mono fun b o v h=>HD.out.1.sub _ _ _ (hS7 _ _ _ (hS5 _ _ _ h))) HD.out.2.1 (wor_det hD3 HD.out.2.2 rfl)).mono ?_
      rintro e W'' ⟨rfl,hb2⟩
      exact⟨rfl,KB _ (hb'.trans (hb2.mono hb'.size))⟩
     have K2:Hid (∀ W,(Below W8.heap.size W8 W∧W.cell? ⟨w.heap.size,0,none⟩=some (.int .i64 ka)∧W.cell? ⟨w.heap.size,1,none⟩=some (.bool ba)∧W.cell? ⟨w.heap.size,2,none⟩=some (.int .i64 na)∧W.cell? ⟨w.heap.size,3,none⟩=some (.string sa)∧W.cell? ⟨w.heap.size,4,none⟩=some (.slice a4 l4 c4)∧W.cell? ⟨w.heap.size,5,none⟩=some (.slice a5 l5 c5)∧W.cell? ⟨B3,0,none⟩=some (.int .i64 k3)∧W.cell? ⟨B3,1,none⟩=some (.bool b3)∧W.cell? ⟨B3,2,none⟩=some (.int .i64 n3')∧W.cell? ⟨B3,3,none⟩=some (.string s3)∧W.cell? ⟨B3,4,none⟩=some (.slice p4 q4 g4)∧W.cell? ⟨B3,5,none⟩=some (.slice p5 q5 g5)∧W.cell? ⟨B5,0,none⟩=some (.int .i64 k6)∧W.cell? ⟨B5,1,none⟩=some (.bool b6)∧W.cell? ⟨B5,2,none⟩=some (.int .i64 n6')∧W.cell? ⟨B5,3,none⟩=some (.string s6)∧W.cell? ⟨B5,4,none⟩=some (.slice t4 u4 v4)∧W.cell? ⟨B5,5,none⟩=some (.slice t5 u5 v5)∧W.cell? ⟨B7,0,none⟩=some (.int .i64 k9)∧W.cell? ⟨B7,1,none⟩=some (.bool b9)∧W.cell? ⟨B7,2,none⟩=some (.int .i64 n9')∧W.cell? ⟨B7,3,none⟩=some (.string s9)∧W.cell? ⟨B7,4,none⟩=some (.slice f4 g4' h4)∧W.cell? ⟨B7,5,none⟩=some (.slice f5 g5' h5))→Calls Tryz.prog 8 #[.agg #[.int .i64 k6,.bool b6,.int .i64 n6',.string s6,.slice t4 u4 v4,.slice t5 u5 v5],.agg #[.int .i64 k3,.bool b3,.int .i64 n3',.string s3,.slice p4 q4 g4,.slice p5 q5 g5]] W fun e W'=>e=.returned (.bool true)∧(Below W8.heap.size W8 W'∧W'.cell? ⟨w.heap.size,0,none⟩=some (.int .i64 ka)∧W'.cell? ⟨w.heap.size,1,none⟩=some (.bool ba)∧W'.cell? ⟨w.heap.size,2,none⟩=some (.int .i64 na)∧W'.cell? ⟨w.heap.size,3,none⟩=some (.string sa)∧W'.cell? ⟨w.heap.size,4,none⟩=some (.slice a4 l4 c4)∧W'.cell? ⟨w.heap.size,5,none⟩=some (.slice a5 l5 c5)∧W'.cell? ⟨B3,0,none⟩=some (.int .i64 k3)∧W'.cell? ⟨B3,1,none⟩=some (.bool b3)∧W'.cell? ⟨B3,2,none⟩=some (.int .i64 n3')∧W'.cell? ⟨B3,3,none⟩=some (.string s3)∧W'.cell? ⟨B3,4,none⟩=some (.slice p4 q4 g4)∧W'.cell? ⟨B3,5,none⟩=some (.slice p5 q5 g5)∧W'.cell? ⟨B5,0,none⟩=some (.int .i64 k6)∧W'.cell? ⟨B5,1,none⟩=some (.bool b6)∧W'.cell? ⟨B5,2,none⟩=some (.int .i64 n6')∧W'.cell? ⟨B5,3,none⟩=some (.string s6)∧W'.cell? ⟨B5,4,none⟩=some (.slice t4 u4 v4)∧W'.cell? ⟨B5,5,none⟩=some (.slice t5 u5 v5)∧W'.cell? ⟨B7,0,none⟩=some (.int .i64 k9)∧W'.cell? ⟨B7,1,none⟩=some (.bool b9)∧W'.cell? ⟨B7,2,none⟩=some (.int .i64 n9')∧W'.cell? ⟨B7,3,none⟩=some (.string s9)∧W'.cell? ⟨B7,4,none⟩=some (.slice f4 g4' h4)∧W'.cell? ⟨B7,5,none⟩=some (.slice f5 g5' h5))):=fun W hS=>by
      refine (alike_y hG hk0 hsz (GS _ hS.1) (φS _ hS.1) (hC5.mono hS7) (hC3.mono fun b o v h=>hS7 _ _ _ (hS5 _ _ _ h)) (wor_twice hD3 hD5).symm).mono ?_
      rintro e W'' ⟨rfl,hb2⟩
      exact⟨rfl,KB _ (hS.1.trans (hb2.mono hS.1.size))⟩
     have K3:Hid (∀ W,(Below W8.heap.size W8 W∧W.cell? ⟨w.heap.size,0,none⟩=some (.int .i64 ka)∧W.cell? ⟨w.heap.size,1,none⟩=some (.bool ba)∧W.cell? ⟨w.heap.size,2,none⟩=some (.int .i64 na)∧W.cell? ⟨w.heap.size,3,none⟩=some (.string sa)∧W.cell? ⟨w.heap.size,4,none⟩=some (.slice a4 l4 c4)∧W.cell? ⟨w.heap.size,5,none⟩=some (.slice a5 l5 c5)∧W.cell? ⟨B3,0,none⟩=some (.int .i64 k3)∧W.cell? ⟨B3,1,none⟩=some (.bool b3)∧W.cell? ⟨B3,2,none⟩=some (.int .i64 n3')∧W.cell? ⟨B3,3,none⟩=some (.string s3)∧W.cell? ⟨B3,4,none⟩=some (.slice p4 q4 g4)∧W.cell? ⟨B3,5,none⟩=some (.slice p5 q5 g5)∧W.cell? ⟨B5,0,none⟩=some (.int .i64 k6)∧W.cell? ⟨B5,1,none⟩=some (.bool b6)∧W.cell? ⟨B5,2,none⟩=some (.int .i64 n6')∧W.cell? ⟨B5,3,none⟩=some (.string s6)∧W.cell? ⟨B5,4,none⟩=some (.slice t4 u4 v4)∧W.cell? ⟨B5,5,none⟩=some (.slice t5 u5 v5)∧W.cell? ⟨B7,0,none⟩=some (.int .i64 k9)∧W.cell? ⟨B7,1,none⟩=some (.bool b9)∧W.cell? ⟨B7,2,none⟩=some (.int .i64 n9')∧W.cell? ⟨B7,3,none⟩=some (.string s9)∧W.cell? ⟨B7,4,none⟩=some (.slice f4 g4' h4)∧W.cell? ⟨B7,5,none⟩=some (.slice f5 g5' h5))→Calls Tryz.prog 8 #[.agg #[.int .i64 k9,.bool b9,.int .i64 n9',.string s9,.slice f4 g4' h4,.slice f5 g5' h5],.agg #[.int .i64 ka,.bool ba,.int .i64 na,.string sa,.slice a4 l4 c4,.slice a5 l5 c5]] W fun e W'=>e=.returned (.bool true)∧(Below W8.heap.size W8 W'∧W'.cell? ⟨w.heap.size,0,none⟩=some (.int .i64 ka)∧W'.cell? ⟨w.heap.size,1,none⟩=some (.bool ba)∧W'.cell? ⟨w.heap.size,2,none⟩=some (.int .i64 na)∧W'.cell? ⟨w.heap.size,3,none⟩=some (.string sa)∧W'.cell? ⟨w.heap.size,4,none⟩=some (.slice a4 l4 c4)∧W'.cell? ⟨w.heap.size,5,none⟩=some (.slice a5 l5 c5)∧W'.cell? ⟨B3,0,none⟩=some (.int .i64 k3)∧W'.cell? ⟨B3,1,none⟩=some (.bool b3)∧W'.cell? ⟨B3,2,none⟩=some (.int .i64 n3')∧W'.cell? ⟨B3,3,none⟩=some (.string s3)∧W'.cell? ⟨B3,4,none⟩=some (.slice p4 q4 g4)∧W'.cell? ⟨B3,5,none⟩=some (.slice p5 q5 g5)∧W'.cell? ⟨B5,0,none⟩=some (.int .i64 k6)∧W'.cell? ⟨B5,1,none⟩=some (.bool b6)∧W'.cell? ⟨B5,2,none⟩=some (.int .i64 n6')∧W'.cell? ⟨B5,3,none⟩=some (.string s6)∧W'.cell? ⟨B5,4,none⟩=some (.slice t4 u4 v4)∧W'.cell? ⟨B5,5,none⟩=some (.slice t5 u5 v5)∧W'.cell? ⟨B7,0,none⟩=some (.int .i64 k9)∧W'.cell? ⟨B7,1,none⟩=some (.bool b9)∧W'.cell? ⟨B7,2,none⟩=some (.int .i64 n9')∧W'.cell? ⟨B7,3,none⟩=some (.string s9)∧W'.cell? ⟨B7,4,none⟩=some (.slice f4 g4' h4)∧W'.cell? ⟨B7,5,none⟩=some (.slice f5 g5' h5))):=fun W hS=>by
      refine (alike_y hG hk0 hsz (GS _ hS.1) (φS _ hS.1) hC7 (hr.mono hS07) (wor_none hD7).symm).mono ?_
      rintro e W'' ⟨rfl,hb2⟩
      exact⟨rfl,KB _ (hS.1.trans (hb2.mono hS.1.size))⟩
     have K4:Hid (∀ W,(Below W8.heap.size W8 W∧W.cell? ⟨w.heap.size,0,none⟩=some (.int .i64 ka)∧W.cell? ⟨w.heap.size,1,none⟩=some (.bool ba)∧W.cell? ⟨w.heap.size,2,none⟩=some (.int .i64 na)∧W.cell? ⟨w.heap.size,3,none⟩=some (.string sa)∧W.cell? ⟨w.heap.size,4,none⟩=some (.slice a4 l4 c4)∧W.cell? ⟨w.heap.size,5,none⟩=some (.slice a5 l5 c5)∧W.cell? ⟨B3,0,none⟩=some (.int .i64 k3)∧W.cell? ⟨B3,1,none⟩=some (.bool b3)∧W.cell? ⟨B3,2,none⟩=some (.int .i64 n3')∧W.cell? ⟨B3,3,none⟩=some (.string s3)∧W.cell? ⟨B3,4,none⟩=some (.slice p4 q4 g4)∧W.cell? ⟨B3,5,none⟩=some (.slice p5 q5 g5)∧W.cell? ⟨B5,0,none⟩=some (.int .i64 k6)∧W.cell? ⟨B5,1,none⟩=some (.bool b6)∧W.cell? ⟨B5,2,none⟩=some (.int .i64 n6')∧W.cell? ⟨B5,3,none⟩=some (.string s6)∧W.cell? ⟨B5,4,none⟩=some (.slice t4 u4 v4)∧W.cell? ⟨B5,5,none⟩=some (.slice t5 u5 v5)∧W.cell? ⟨B7,0,none⟩=some (.int .i64 k9)∧W.cell? ⟨B7,1,none⟩=some (.bool b9)∧W.cell? ⟨B7,2,none⟩=some (.int .i64 n9')∧W.cell? ⟨B7,3,none⟩=some (.string s9)∧W.cell? ⟨B7,4,none⟩=some (.slice f4 g4' h4)∧W.cell? ⟨B7,5,none⟩=some (.slice f5 g5' h5))→Calls Tryz.prog 6 #[] W fun e W'=>e=.returned (.bool true)∧(Below W8.heap.size W8 W'∧W'.cell? ⟨w.heap.size,0,none⟩=some (.int .i64 ka)∧W'.cell? ⟨w.heap.size,1,none⟩=some (.bool ba)∧W'.cell? ⟨w.heap.size,2,none⟩=some (.int .i64 na)∧W'.cell? ⟨w.heap.size,3,none⟩=some (.string sa)∧W'.cell? ⟨w.heap.size,4,none⟩=some (.slice a4 l4 c4)∧W'.cell? ⟨w.heap.size,5,none⟩=some (.slice a5 l5 c5)∧W'.cell? ⟨B3,0,none⟩=some (.int .i64 k3)∧W'.cell? ⟨B3,1,none⟩=some (.bool b3)∧W'.cell? ⟨B3,2,none⟩=some (.int .i64 n3')∧W'.cell? ⟨B3,3,none⟩=some (.string s3)∧W'.cell? ⟨B3,4,none⟩=some (.slice p4 q4 g4)∧W'.cell? ⟨B3,5,none⟩=some (.slice p5 q5 g5)∧W'.cell? ⟨B5,0,none⟩=some (.int .i64 k6)∧W'.cell? ⟨B5,1,none⟩=some (.bool b6)∧W'.cell? ⟨B5,2,none⟩=some (.int .i64 n6')∧W'.cell? ⟨B5,3,none⟩=some (.string s6)∧W'.cell? ⟨B5,4,none⟩=some (.slice t4 u4 v4)∧W'.cell? ⟨B5,5,none⟩=some (.slice t5 u5 v5)∧W'.cell? ⟨B7,0,none⟩=some (.int .i64 k9)∧W'.cell? ⟨B7,1,none⟩=some (.bool b9)∧W'.cell? ⟨B7,2,none⟩=some (.int .i64 n9')∧W'.cell? ⟨B7,3,none⟩=some (.string s9)∧W'.cell? ⟨B7,4,none⟩=some (.slice f4 g4' h4)∧W'.cell? ⟨B7,5,none⟩=some (.slice f5 g5' h5))):=fun W hS=>by
      refine (hK _ (GS _ hS.1)).mono ?_
      rintro e W'' ⟨rfl,hb2⟩
      exact⟨rfl,KB _ (hS.1.trans (hb2.mono hS.1.size))⟩
     have S0:(Below W8.heap.size W8 W8.drew∧W8.drew.cell? ⟨w.heap.size,0,none⟩=some (.int .i64 ka)∧W8.drew.cell? ⟨w.heap.size,1,none⟩=some (.bool ba)∧W8.drew.cell? ⟨w.heap.size,2,none⟩=some (.int .i64 na)∧W8.drew.cell? ⟨w.heap.size,3,none⟩=some (.string sa)∧W8.drew.cell? ⟨w.heap.size,4,none⟩=some (.slice a4 l4 c4)∧W8.drew.cell? ⟨w.heap.size,5,none⟩=some (.slice a5 l5 c5)∧W8.drew.cell? ⟨B3,0,none⟩=some (.int .i64 k3)∧W8.drew.cell? ⟨B3,1,none⟩=some (.bool b3)∧W8.drew.cell? ⟨B3,2,none⟩=some (.int .i64 n3')∧W8.drew.cell? ⟨B3,3,none⟩=some (.string s3)∧W8.drew.cell? ⟨B3,4,none⟩=some (.slice p4 q4 g4)∧W8.drew.cell? ⟨B3,5,none⟩=some (.slice p5 q5 g5)∧W8.drew.cell? ⟨B5,0,none⟩=some (.int .i64 k6)∧W8.drew.cell? ⟨B5,1,none⟩=some (.bool b6)∧W8.drew.cell? ⟨B5,2,none⟩=some (.int .i64 n6')∧W8.drew.cell? ⟨B5,3,none⟩=some (.string s6)∧W8.drew.cell? ⟨B5,4,none⟩=some (.slice t4 u4 v4)∧W8.drew.cell? ⟨B5,5,none⟩=some (.slice t5 u5 v5)∧W8.drew.cell? ⟨B7,0,none⟩=some (.int .i64 k9)∧W8.drew.cell? ⟨B7,1,none⟩=some (.bool b9)∧W8.drew.cell? ⟨B7,2,none⟩=some (.int .i64 n9')∧W8.drew.cell? ⟨B7,3,none⟩=some (.string s9)∧W8.drew.cell? ⟨B7,4,none⟩=some (.slice f4 g4' h4)∧W8.drew.cell? ⟨B7,5,none⟩=some (.slice f5 g5' h5)):=KB _ ((Below.refl _ _).drew)
     have HB8:=Go.Lib.hid hB8
     clear hG hk0 hsz hK hu KB GS φS hS07 hS35 hS7 hS5 hS3 hC3 hD3 hC5 hD5 hC7 hD7 H3 H5 H7 hN hR hr hbw n8 y8 x8 z8 e8 hB8 φ8 G2 G4 G6 φ2 φ4 φ6 hB2 hB3 hB4 hB5 hB6 hB7 hb3 hb5 hb7 n2 n3 n4 n5 n6 n7 y6 y7 z4 z5 z6 z7 e2 e3 e4 e5 e6 e7 hφ hGw hkw
     go_upto_region 6 with (fail)
     go_region_held3 (fun W=>(Below W8.heap.size W8 W∧W.cell? ⟨w.heap.size,0,none⟩=some (.int .i64 ka)∧W.cell? ⟨w.heap.size,1,none⟩=some (.bool ba)∧W.cell? ⟨w.heap.size,2,none⟩=some (.int .i64 na)∧W.cell? ⟨w.heap.size,3,none⟩=some (.string sa)∧W.cell? ⟨w.heap.size,4,none⟩=some (.slice a4 l4 c4)∧W.cell? ⟨w.heap.size,5,none⟩=some (.slice a5 l5 c5)∧W.cell? ⟨B3,0,none⟩=some (.int .i64 k3)∧W.cell? ⟨B3,1,none⟩=some (.bool b3)∧W.cell? ⟨B3,2,none⟩=some (.int .i64 n3')∧W.cell? ⟨B3,3,none⟩=some (.string s3)∧W.cell? ⟨B3,4,none⟩=some (.slice p4 q4 g4)∧W.cell? ⟨B3,5,none⟩=some (.slice p5 q5 g5)∧W.cell? ⟨B5,0,none⟩=some (.int .i64 k6)∧W.cell? ⟨B5,1,none⟩=some (.bool b6)∧W.cell? ⟨B5,2,none⟩=some (.int .i64 n6')∧W.cell? ⟨B5,3,none⟩=some (.string s6)∧W.cell? ⟨B5,4,none⟩=some (.slice t4 u4 v4)∧W.cell? ⟨B5,5,none⟩=some (.slice t5 u5 v5)∧W.cell? ⟨B7,0,none⟩=some (.int .i64 k9)∧W.cell? ⟨B7,1,none⟩=some (.bool b9)∧W.cell? ⟨B7,2,none⟩=some (.int .i64 n9')∧W.cell? ⟨B7,3,none⟩=some (.string s9)∧W.cell? ⟨B7,4,none⟩=some (.slice f4 g4' h4)∧W.cell? ⟨B7,5,none⟩=some (.slice f5 g5' h5)))
      ((with_reducible assumption))
      (first
       |(go_at_call 9;refine (KR.out _ (by with_reducible assumption)).mono ?_;rintro e w' ⟨kz,bz,nz,sz,az4,lz4,cz4,az5,lz5,cz5,rfl,sw,HA⟩)
       |(go_at_call 8;with_reducible refine HA.out.mono ?_;rintro e w' ⟨rfl,sw⟩)
       |(go_at_call 8;with_reducible refine (K2.out _ (by with_reducible assumption)).mono ?_;rintro e w' ⟨rfl,sw⟩)
       |(go_at_call 8;with_reducible refine (K3.out _ (by with_reducible assumption)).mono ?_;rintro e w' ⟨rfl,sw⟩)
       |(go_at_call 6;with_reducible refine (K4.out _ (by with_reducible assumption)).mono ?_;rintro e w' ⟨rfl,sw⟩))
     have hB9:Below w.heap.size w w':=HB8.out.trans (sw.1.mono HB8.out.size)
     clear sw HB8 KR K2 K3 K4 HA S0
     go_wp2_with (fail)
     exact bodyPost_ret (v:=.bool true) (by simp[results,Tryz.results3,go_sem]) rfl ⟨rfl,hB9⟩
  ·generalize checkN u r=cn at hc ⊢
   go_wp2_with (fail)
   refine (hK _ G2).mono ?_
   rintro e W3 ⟨rfl,hb3⟩
   have hB3:Below w.heap.size w W3:=hB2.trans (hb3.mono (by omega))
   clear hG hK hu
   go_wp2_with (fail)
   exact bodyPost_ret (v:=.bool true) (by simp[results,Tryz.results3,go_sem]) rfl ⟨rfl,hB3⟩
end Go.Proofs.Wo
