/-
  SX, part N: a state that matches is that of the cut. Own text.
-/
import Derived.Test.YtbddnchfoojacaaGreatDoorSx1
set_option linter.all false
namespace Go.Exo
set_option linter.unusedSectionVars false
def Ends (P:Program)(f:FuncId)(cs:List Frame)(fr:Frame)(w:World)(R:Ending→World→Prop):Prop:=
 ∃ e w' fr',R e w'∧Comes P (lone fr cs w) (lone fr' cs w') e∧fr'.fn=f∧fr'.leaving P w' e
theorem Ends.steps {P:Program}{f:FuncId}{cs:List Frame}{fr fr1:Frame}{w w1:World}{R:Ending→World→Prop}(h:Steps P (lone fr cs w) (lone fr1 cs w1))(he:Ends P f cs fr1 w1 R):Ends P f cs fr w R:=by
 obtain⟨e,w',fr',h1,h2,h3⟩:=he
 exact⟨e,w',fr',h1,Comes.of_steps h h2,h3⟩
theorem Ends.mono {P:Program}{f:FuncId}{cs:List Frame}{fr:Frame}{w:World}{R R':Ending→World→Prop}(he:Ends P f cs fr w R)(h:∀ e w',R e w'→R' e w'):Ends P f cs fr w R':=by
 obtain⟨e,w',fr',h1,h2⟩:=he
 exact⟨e,w',fr',h _ _ h1,h2⟩
structure ExtO (old:Nat→Prop)(w w':World):Prop where
 old:∀ b,old b→w'.heap[b]? = w.heap[b]?
 size:w.heap.size≤w'.heap.size
 os:w'.os=w.os
 output:w'.output=w.output
 tape:w'.tape=w.tape
theorem ExtO.refl (old:Nat→Prop)(w:World):ExtO old w w:=⟨fun _ _=>rfl,Nat.le_refl _,rfl,rfl,rfl⟩
theorem ExtO.trans {old:Nat→Prop}{w w' w'':World}(h:ExtO old w w')(h':ExtO old w' w''):ExtO old w w'':=
 ⟨fun b hb=>(h'.old b hb).trans (h.old b hb),Nat.le_trans h.size h'.size,h'.os.trans h.os,h'.output.trans h.output,h'.tape.trans h.tape⟩
variable [Sx]
section
variable [Dc]{P:Program}{w0:Bs}
theorem fin_ends {cs:List Frame}{f:Nat}{fr:Frame}{w:World}{o:Out}(hfin:Fin P w0 cs o fr cs w){v:V}{H':T AObj}{nx':Nat}(h:final P f o=some (v,H',nx')) :
  Ends P f cs fr w fun e w'=>∃ x E',e=.returned x∧VR E' v x∧WR w0 E' H' nx' w'∧∀ g,g<P.globals.size→∃ s,E' g=some ⟨g,0,s,undef,noOb,[]⟩:=by
 unfold final at h
 split at h
 ·rename_i todo c
  split at h
  ·rename_i h1 h2 h3
   cases hb:Nat.beq c.fn f with
   |false=>rw[hb] at h;cases h
   |true=>
    rw[hb] at h
    simp only[cond_true] at h
    rw[Nat.beq_eq] at hb
    obtain⟨E',fr,cs',w',hst,hmr⟩:=hfin _ _ _ rfl
    cases hr:resV P c.fn c.tm c.H with
    |val u=>
     rw[hr] at h
     simp only[Option.some.injEq,Prod.mk.injEq] at h
     obtain⟨rfl,rfl,rfl⟩:=h
     obtain⟨fn,x,g1,g2,g3⟩:=resV_ok hmr.wr hmr.rest hr
     obtain⟨b,_,hf⟩:=hmr.frs
     rw[h1] at hf
     change cs'=cs at hf
     subst hf
     have hd:=hmr.defers
     rw[h2] at hd
     exact⟨.returned x,w',fr,⟨x,E',rfl,g3,hmr.wr,hmr.gl⟩,hst,by rw[hmr.fn,hb],⟨hmr.mode,hd,by rw[hmr.kind,h3],fn,by rw[hmr.fn];exact g1,g2⟩⟩
    |_=>rw[hr] at h;cases h
  ·cases h
 ·cases h
end
theorem VRs.ofTR {E:Env}{tm:T V}{xs:Array Value}(h:TR E tm xs):∀ (n i:Nat),i+n=xs.size→VRs E (tm.range undefV n i) (xs.toList.drop i)
 |0,i,hn=>by
  have:xs.toList.drop i=[]:=List.drop_eq_nil_of_le (by simp;omega)
  rw[this];exact .nil
 |n+1,i,hn=>by
  have hi:i<xs.size:=by omega
  have e:xs.toList.drop i=xs.getD i undef::xs.toList.drop (i+1):=by
   rw[List.drop_eq_getElem_cons (by simpa using hi)]
   congr 1
   simp[Array.getD,hi]
  rw[e]
  exact .cons _ _ _ _ (h i) (VRs.ofTR h n (i+1) (by omega))
theorem TR.ofVRs {E:Env}{l:List V}{xs:Array Value}(h:VRs E l xs.toList):TR E (T.ofK undefV l 0 .e id) xs:=by
 intro i
 rw[ofK_eq,getU_eq]
 show VR E ((putL undefV l 0 .e).get undefV i) _
 rw[get_putL]
 simp only[Nat.zero_le,if_true,Nat.sub_zero]
 cases hl:l[i]? with
 |some v=>
  obtain⟨x,hx,hv⟩:=h.get i v hl
  have hx':xs[i]? = some x:=by simpa using hx
  rw[Array.getD_eq_getD_getElem?,hx'];exact hv
 |none=>
  have hlen:=h.length
  have:xs.size≤i:=by have:=List.getElem?_eq_none_iff.1 hl;simp at hlen;omega
  rw[Array.getD_eq_getD_getElem?,Array.getElem?_eq_none this,get_e];exact .undef E
theorem TodoR.pl0 {E E':Env}:∀ {as:List AItem}{t:List Item},(∀ i∈as,i.pl0=true)→TodoR E as t→TodoR E' as t
 |[],_,_,h=>h
 |a::as,t,hp,h=>by
  have h0:=hp a (List.mem_cons_self ..)
  cases a<;>first|(simp[AItem.pl0] at h0;done)|skip
  all_goals
   obtain⟨i,r,e,h1,h2⟩:=h
   exact⟨i,r,e,h1,TodoR.pl0 (fun i hi=>hp i (List.mem_cons_of_mem _ hi)) h2⟩
theorem RunR.pl0 {P:Program}{E:Env}{tm:T V}{fr:Frame}{t:List AItem}(hp:∀ i∈t,i.pl0=true)(h:RunR P E tm fr t):TodoR E t fr.todo∧TR E tm fr.tmps:=by
 unfold RunR at h
 split at h
 ·have:=hp _ (List.mem_cons_self ..);simp[AItem.pl0] at this
 ·exact h
theorem okAt1c {P:Program}{g:Gh}{pls:List Pl}{t:X}(h:t.at1 P.globals.size=true):t.ok (cutEnv P g pls):=by
 rw[X.ok_pls]
 intro l hl
 have:=List.all_eq_true.1 h l hl
 rw[← Nat.eq_of_beq_eq_true this]
 exact⟨_,cutEnv_at⟩
def plOf (E:Env)(l:Nat):Pl:=match E l with|some p=>{ p with ob:=noOb }|none=>⟨0,0,0,undef,noOb,[]⟩
theorem plOf_some {E:Env}{l:Nat}{p:Pl}(h:E l=some p):plOf E l={ p with ob:=noOb }:=by unfold plOf;rw[h]
theorem plOf_ob {E:Env}{l:Nat}:(plOf E l).ob=noOb:=by unfold plOf;split<;>rfl
section
variable [Dc] [Tb]{P:Program}
structure Canon (P:Program)(E:Env)(tb:Nat→List Cl→Cl)(bs:List (Option Bx))(π:List Nat)(σ:List X)(ks:List Kd)(w:World)(old:Nat→Prop)(hold:∀ b,old b→b<w.heap.size):Prop where
 wr : @WR _ (dcOf []) ⟨w,old,hold,cutEnv P (ghOf (fzF E.fz) (σ.map (X.c E)) tb) (π.map (plOf E))⟩ (cutEnv P (ghOf (fzF E.fz) (σ.map (X.c E)) tb) (π.map (plOf E))) (heapB P.globals.size bs) (P.globals.size+1+bs.length) w
 vr:∀ p v x,matchV P.globals.size π σ p v=true→VR E v x→VR (cutEnv P (ghOf (fzF E.fz) (σ.map (X.c E)) tb) (π.map (plOf E))) p x
 vrs:∀ ps vs xs,matchL P.globals.size π σ ps vs=true→VRs E vs xs→VRs (cutEnv P (ghOf (fzF E.fz) (σ.map (X.c E)) tb) (π.map (plOf E))) ps xs
 fz:∀ b o v,fzF E.fz b o=some v↔E.fz b o v
 kinds:∀ sl xs,VRs (cutEnv P (ghOf (fzF E.fz) (σ.map (X.c E)) tb) (π.map (plOf E))) sl xs→ksIn P.globals.size sl bs ks 0=true→Wts ks (σ.map (X.c E))
 len:π.length=bs.length
theorem canon_ok {B:Bs}{E:Env}{H:T AObj}{nx:Nat}{w:World}(h:WR B E H nx w)(hgl:∀ l,l<P.globals.size→∃ s,E l=some ⟨l,0,s,undef,noOb,[]⟩)(hglw:P.globals.size≤w.heap.size)(h0:0<w.heap.size){tb:Nat→List Cl→Cl}{n:Nat}{bs:List (Option Bx)}{ks:List Kd}{π:List Nat}{σ:List X}{kn:List Nat}
  (hkn:∀ l∈kn,∃ p,E l=some p)(hb:boxesOk P.globals.size n bs ks π σ H kn=true)(_hσ:∀ t∈σ,t.ok E)(old:Nat→Prop)(hold:∀ b,old b→b<w.heap.size)
  (hnold:∀ (i:Nat)(b:Bx)(l:Nat)(q:Pl),bs[i]? = some (some b)→b.ro=false→π[i]? = some l→E l=some q→¬ old q.blk):Canon P E tb bs π σ ks w old hold:=by
 unfold boxesOk at hb
 simp only[Bool.and_eq_true] at hb
 obtain⟨⟨⟨⟨b1,b2⟩,b3⟩,b4⟩,b5⟩:=hb
 have hlen5:=Nat.eq_of_beq_eq_true b5
 obtain⟨hbl,hbg⟩:=matchBs_get b1
 have hat:=reachB_ok (heap:=fun b=>w.heap[b]?) h.objs hkn b1 b3
 have hcell:∀ b o v,E.fz b o v→w.cell? ⟨b,o,none⟩=some v:=fun b o v ⟨l,p,hp,hv⟩=>(h.dat l p hp b o v hv).1
 have hu:∀ b o v v',E.fz b o v→E.fz b o v'→v=v':=fun b o v v' a b'=>by
  have e1:=hcell _ _ _ a
  rw[hcell _ _ _ b'] at e1
  cases e1;rfl
 have hfzF:∀ b o v,fzF E.fz b o=some v↔E.fz b o v:=fun b o v=>⟨fun h=>fzF_spec h,fun h=>fzF_mk hu h⟩
 generalize hpls:π.map (plOf E)=pls
 have hpls0:∀ p∈pls,p.ob=noOb:=fun p hp=>by
  rw[← hpls] at hp
  obtain⟨l,_,rfl⟩:=List.mem_map.1 hp
  exact plOf_ob
 generalize hcls:σ.map (X.c E)=cls
 generalize hE':cutEnv P (ghOf (fzF E.fz) cls tb) pls=E'
 have hE'L:E' P.globals.size=some ⟨0,0,0,undef,ghOf (fzF E.fz) cls tb,[]⟩:=by rw[← hE'];exact cutEnv_at
 have hfz':∀ b o v,E'.fz b o v↔E.fz b o v:=fun b o v=>by
  rw[← hE',cutEnv_fz hpls0]
  exact hfzF b o v
 have hvar:∀ j t,σ[j]? = some t→∃ p,E' P.globals.size=some p∧p.ob.vl j=t.c E:=fun j t hj=>by
  refine⟨_,hE'L,?_⟩
  show cls.getD j .no=_
  rw[← hcls]
  simp[List.getD,List.getElem?_map,hj]
 have hplB:∀ l l',plB P.globals.size π l l'=true→∀ q,E l'=some q→∃ q',E' l=some q'∧q'.blk=q.blk∧q'.base=q.base∧(P.globals.size<l→q'.size=q.size):=fun l l' hh q hq=>by
  unfold plB at hh
  cases h1:Nat.ble (Nat.succ l) P.globals.size with
  |true=>
   rw[h1] at hh
   have h2:=Nat.le_of_ble_eq_true h1
   have e:=Nat.eq_of_beq_eq_true hh
   subst e
   obtain⟨s,hs⟩:=hgl l h2
   rw[hs] at hq;cases hq
   exact⟨⟨l,0,0,undef,noOb,[]⟩,by rw[← hE'];exact cutEnv_gl' h2,rfl,rfl,fun hh=>by omega⟩
  |false=>
   rw[h1] at hh
   simp only[cond_false] at hh
   cases h2:Nat.beq l P.globals.size with
   |true=>rw[h2] at hh;cases hh
   |false=>
    rw[h2] at hh
    simp only[cond_false] at hh
    have g1:¬ l+1≤P.globals.size:=fun hx=>by rw[Nat.ble_eq_true_of_le hx] at h1;cases h1
    have g2:l≠P.globals.size:=fun e=>by rw[e,Nat.beq_refl] at h2;cases h2
    cases hk:π[Nat.sub l (Nat.succ P.globals.size)]? with
    |none=>rw[hk] at hh;cases hh
    |some kk=>
     rw[hk] at hh
     have e:=Nat.eq_of_beq_eq_true hh
     subst e
     have e2:P.globals.size+1+(l-(P.globals.size+1))=l:=by omega
     refine⟨{ q with ob:=noOb },?_,rfl,rfl,fun _=>rfl⟩
     rw[← hE',← e2,cutEnv_box,← hpls,List.getElem?_map]
     have hk':π[l-(P.globals.size+1)]? = some kk:=hk
     rw[hk']
     simp only[Option.map_some,plOf_some hq]
 have hVR:∀ {p v:V}{x:Value},matchV P.globals.size π σ p v=true→VR E v x→VR E' p x:=matchV_ok hvar (fun b o v h=>(hfz' b o v).2 h) hplB
 have hVRs:∀ {ps vs:List V}{xs:List Value},matchL P.globals.size π σ ps vs=true→VRs E vs xs→VRs E' ps xs:=matchL_ok hvar (fun b o v h=>(hfz' b o v).2 h) hplB
 have hbox:∀ (i:Nat)(b:Bx),bs[i]? = some (some b)→∃ l q,π[i]? = some l∧E l=some q∧pls[i]? = some { q with ob:=noOb }∧matchB P.globals.size π σ b (getH H l)=true:=fun i b hb=>by
  obtain⟨l,hl,hm⟩:=hbg i b hb
  obtain⟨l',q,hl',hq⟩:=hat i b hb
  rw[hl] at hl';cases hl'
  exact⟨l,q,hl,hq,by rw[← hpls,List.getElem?_map,hl];simp only[Option.map_some,plOf_some hq],hm⟩
 have hbx:∀ (i:Nat)(b:Bx)(l:Nat)(q:Pl),bs[i]? = some (some b)→π[i]? = some l→E l=some q→matchB P.globals.size π σ b (getH H l)=true→isRo b.obj=true∨¬ old q.blk:=fun i b l q h1 h2 h3 h4=>by
  cases hr:b.ro with
  |true=>exact .inl (by rw[b.obj_cls.2.1];exact hr)
  |false=>exact .inr (hnold i b l q h1 hr h2 h3)
 have hinv:∀ l p,E' l=some p→(getH (heapB P.globals.size bs) l=.no∧p.blk<w.heap.size∧(p.ob.fz=(if l=P.globals.size then fzF E.fz else fun _ _=>none)))∨
   ∃ (i:Nat)(b:Bx)(l':Nat)(q:Pl),l=P.globals.size+1+i∧bs[i]? = some (some b)∧π[i]? = some l'∧E l'=some q∧p={ q with ob:=noOb }∧matchB P.globals.size π σ b (getH H l')=true∧getH (heapB P.globals.size bs) l=b.obj:=fun l p hl=>by
  rw[← hE'] at hl
  rcases cutEnv_inv hl with⟨h1,rfl⟩|⟨rfl,rfl⟩|⟨i,rfl,hi⟩
  ·exact .inl ⟨getH_lo (by omega),by show l<_;omega,by rw[if_neg (by omega)];rfl⟩
  ·exact .inl ⟨getH_lo (Nat.le_refl _),h0,by rw[if_pos rfl];rfl⟩
  ·have hil:i<bs.length:=by
    have:=(List.getElem?_eq_some_iff.1 hi).1
    rw[← hpls,List.length_map] at this;omega
   have hbi:bs[i]? = some bs[i]:=List.getElem?_eq_getElem hil
   cases hc:bs[i] with
   |none=>
    rw[hc] at hbi
    refine .inl ⟨by rw[getH_box,hbi];rfl,?_,?_⟩
    ·rw[← hpls,List.getElem?_map] at hi
     cases hp:π[i]? with
     |none=>rw[hp] at hi;cases hi
     |some l=>
      rw[hp] at hi
      simp only[Option.map_some,Option.some.injEq] at hi
      rw[← hi]
      unfold plOf
      split
      ·rename_i q hq;exact (h.own l q hq).1
      ·exact h0
    ·rw[if_neg (by omega),hpls0 p (List.mem_of_getElem? hi)];rfl
   |some b=>
    rw[hc] at hbi
    obtain⟨l',q,g1,g2,g3,g4⟩:=hbox i b hbi
    rw[hi] at g3;cases g3
    exact .inr ⟨i,b,l',q,rfl,hbi,g1,g2,rfl,g4,by rw[getH_box,hbi];rfl⟩
 refine⟨?wr,fun p v x=>by rw[hpls,hcls,hE'];exact hVR,fun ps vs xs=>by rw[hpls,hcls,hE'];exact hVRs,hfzF,?kinds,hbl.symm⟩
 case wr=>
  simp only[hpls,hcls,hE']
  have wobjs:=h.objs
  have wsep:=h.sep
  have wown:=h.own
  have wdat:=h.dat
  clear h
  letI:=dcOf []
  refine⟨fun l p hl=>?objs,fun l hl=>⟨?f1,?f2⟩,fun l l' p p' hne hl hl' hb=>?sep,fun l hc0=>?cls,fun l p hl=>?own,fun _ _=>rfl,Nat.le_refl _,rfl,rfl,rfl,Env.le.refl _,fun l p hl b o v hf=>⟨?d1,fun l' p' hl' hb'=>?d2⟩,fun t b hd=>(by rw[show Dc.dec t=decOf [] t from rfl,decOf_nil] at hd;cases hd),fun l p hl b o v hf _=>⟨l,p,hl,hf⟩⟩
  case objs=>
   rcases hinv l p hl with⟨h4,_,_⟩|⟨i,b,l',q,rfl,g1,g2,g3,rfl,g5,g6⟩
   ·rw[h4];trivial
   ·rw[g6]
    have ho:=wobjs l' q g3
    cases b with
    |own e=>
     rw[matchB_own g5] at ho
     exact ho
    |cells el cs fz r=>
     obtain⟨vs,ro,heq,hro,k7⟩:=matchB_cells g5
     rw[heq] at ho
     obtain⟨cc,fr',m1,m2,m3,m4,m5⟩:=ho
     refine⟨cc,fr',m1,m2,m3,m4,fun i hi _=>?_⟩
     obtain⟨x,hx,hv⟩:=m5 i hi (.inl rfl)
     refine⟨x,hx,?_⟩
     have h1:=range_get (α:=V) .bad vs cs.length 0 i hi
     rw[Nat.zero_add] at h1
     have h2:cs[i]? = some cs[i]:=List.getElem?_eq_getElem hi
     have h3:getC (T.ofK .bad cs 0 .e id) i=cs[i]:=by
      rw[ofK_eq,getC_eq]
      show (putL V.bad _ 0 .e).get V.bad i=_
      rw[get_putL]
      simp[h2]
     rw[h3]
     exact hVR (matchL_get k7 i _ _ h2 h1) hv
  case f1=>
   have hlen:pls.length=bs.length:=by rw[← hpls,List.length_map,hbl]
   rw[← hE']
   unfold cutEnv
   rw[if_neg (by omega),if_neg (by omega)]
   exact List.getElem?_eq_none (by omega)
  case f2=>
   rw[getH_heapB,if_pos (by omega),List.getElem?_eq_none (by simp;omega)];rfl
  case sep=>
   rcases hinv l p hl with⟨h4,_,_⟩|⟨i,b,k,q,rfl,g1,g2,g3,rfl,g5,g6⟩
   ·exact .inl (.inl h4)
   ·rcases hinv l' p' hl' with⟨h4,_,_⟩|⟨i',b',k',q',rfl,g1',g2',g3',rfl,g5',g6'⟩
    ·exact .inl (.inr (.inl h4))
    ·obtain⟨a1,a2,a3,_⟩:=matchB_no g5
     obtain⟨a1',a2',a3',_⟩:=matchB_no g5'
     have hkk:k≠k':=fun e=>by
      subst e
      have:=liveP_inj b2 i i' _ _ k g1 g1' g2 g2'
      omega
     rcases wsep k k' q q' hkk g3 g3' hb with (h|h|h)|h
     ·exact absurd h a1
     ·exact absurd h a1'
     ·exact absurd a2 h.1
     ·exact .inr ⟨by rw[g6,b.obj_cls.2.1];exact a3 h.1,by rw[g6',b'.obj_cls.2.1];exact a3' h.2⟩
  case cls=>
   exfalso
   apply hc0
   rw[getH_heapB]
   split
   ·cases hx:(bs.map objO)[l-(P.globals.size+1)]? with
    |none=>rfl
    |some o=>
     rw[List.getElem?_map] at hx
     cases hy:bs[l-(P.globals.size+1)]? with
     |none=>rw[hy] at hx;cases hx
     |some b=>
      rw[hy] at hx;simp only[Option.map_some,Option.some.injEq] at hx;subst hx
      cases b with
      |none=>rfl
      |some b=>exact b.obj_cls.1
   ·rfl
  case own=>
   rcases hinv l p hl with⟨h4,h3,_⟩|⟨i,b,k,q,rfl,g1,g2,g3,rfl,g5,g6⟩
   ·exact⟨h3,.inl h4⟩
   ·refine⟨(wown k q g3).1,?_⟩
    rw[g6]
    rcases hbx i b k q g1 g2 g3 g5 with hh|hh
    ·exact .inr (.inl hh)
    ·exact .inr (.inr hh)
  case d1=>exact hcell b o v ((hfz' b o v).1 ⟨l,p,hl,hf⟩)
  case d2=>
   obtain⟨l2,p2,h2,h3⟩:=(hfz' b o v).1 ⟨l,p,hl,hf⟩
   rcases hinv l' p' hl' with⟨h4,_,_⟩|⟨i,bb,k,q,rfl,g1,g2,g3,rfl,g5,g6⟩
   ·rw[h4];exact .inl rfl
   ·have hm:=(wdat l2 p2 h2 b o v h3).2 k q g3 hb'
    cases bb with
    |own e=>
     rw[matchB_own g5] at hm
     rw[g6];exact hm
    |cells el cs fz r=>
     obtain⟨vs,ro,heq,hro,_⟩:=matchB_cells g5
     rw[heq] at hm
     rw[g6]
     rcases hm with hm|hm
     ·cases hm
     ·exact .inr (hro hm)
 case kinds=>
  intro sl xs hsl hC
  rw[hpls,hcls,hE'] at hsl
  rw[hcls]
  have key:∀ (j:Nat)(k:Kd),V.hasL P.globals.size j k sl=true∨boxHas P.globals.size j k bs=true→Wt k (cls.getD j .no):=fun j k hh=>by
   rcases hh with hh|hh
   ·exact hasL_ok hE'L hh hsl
   ·obtain⟨b,hb,hh⟩:=boxHas_mem hh
    obtain⟨v,hv,hh2⟩:=V.hasL_mem hh
    obtain⟨i,hi⟩:=List.getElem?_of_mem hb
    obtain⟨i',hi'⟩:=List.getElem?_of_mem hv
    obtain⟨l,q,g1,g2,_,g5⟩:=hbox i b hi
    have ho:=h.objs l q g2
    cases b with
    |own e=>cases hv
    |cells el cs fz r=>
     obtain⟨vs,ro,heq,hro,k7⟩:=matchB_cells g5
     rw[heq] at ho
     obtain⟨cc,fr',m1,m2,m3,m4,m5⟩:=ho
     have hi2:cs[i']? = some v:=hi'
     have hlt:i'<cs.length:=(List.getElem?_eq_some_iff.1 hi2).1
     obtain⟨x,hx,hvv⟩:=m5 i' hlt (.inl rfl)
     have h1:=range_get (α:=V) .bad vs cs.length 0 i' hlt
     rw[Nat.zero_add] at h1
     exact hasV_ok hE'L hh2 (hVR (matchL_get k7 i' _ _ hi2 h1) hvv)
  have hlen:cls.length=ks.length:=by rw[← hcls,List.length_map];exact hlen5
  have gen:∀ (ks:List Kd)(j:Nat),ksIn P.globals.size sl bs ks j=true→j+ks.length=cls.length→Wts ks (cls.drop j):=by
   intro ks
   induction ks with
   |nil=>intro j _ hj;rw[List.drop_eq_nil_of_le (by simp at hj;omega)];exact .nil
   |cons k r ih=>
    intro j h hj
    simp only[List.length_cons] at hj
    simp only[ksIn,Bool.and_eq_true,Bool.or_eq_true] at h
    have hlt:j<cls.length:=by omega
    rw[List.drop_eq_getElem_cons hlt]
    refine .cons ?_ (ih (j+1) h.2 (by omega))
    have:=key j k h.1
    simpa[List.getD,List.getElem?_eq_getElem hlt] using this
  have:=gen ks 0 hC (by omega)
  simpa using this
end
theorem WR.withD {D:List (X×Bool)}{B:Bs}{E:Env}{H:T AObj}{nx:Nat}{w:World}(h : @WR _ (dcOf []) B E H nx w)(hd:∀ t b,decOf D t=some b→t.ok B.env∧t.c B.env=.bool b) : @WR _ (dcOf D) B E H nx w:=by
 letI:=dcOf []
 exact @WR.mk _ (dcOf D) _ _ _ _ _ h.objs h.fresh h.sep h.cls h.own h.old h.size h.os h.output h.tape h.le h.dat hd h.fzo
theorem WR.parts0 {B:Bs}{E:Env}{H:T AObj}{nx:Nat}{w:World}(h : @WR _ (dcOf []) B E H nx w):(∀ l p,E l=some p→OR E H l p w.heap[p.blk]? (getH H l))∧
  (∀ l l' p p',l≠l'→E l=some p→E l'=some p'→p.blk=p'.blk→(getH H l=.no∨getH H l'=.no∨(clsOf (getH H l)≠0∧clsOf (getH H l)=clsOf (getH H l')∧p.base+relOf (getH H l')=p'.base+relOf (getH H l)))∨(isRo (getH H l)=true∧isRo (getH H l')=true))∧
  (∀ l p,E l=some p→p.blk<w.heap.size∧(getH H l=.no∨isRo (getH H l)=true∨¬ B.old p.blk))∧
  (∀ l p,E l=some p→∀ b o v,p.ob.fz b o=some v→w.cell? ⟨b,o,none⟩=some v∧∀ l' p',E l'=some p'→p'.blk=b→mayFz (getH H l') p' o):=by
 letI:=dcOf []
 exact⟨h.objs,h.sep,h.own,h.dat⟩
structure At (P:Program)(old:Nat→Prop)(w0:World)(φ0:Nat→Nat→Option Value)(pls0:List Pl)(tb:Nat→List Cl→Cl)(K:Ctr)(C:Ct)(cls:List Cl)(fr:Frame)(w:World):Prop where
 ext:ExtO old w0 w
 lt:∀ b,old b→b<w.heap.size
 fn:fr.fn=K.f
 kind:fr.kind=.normal
 round:fr.roundOf=none
 defers:fr.defers=[]
 mode:fr.mode=.run
 size:fr.tmps.size=C.sl.length
 wt:Wts C.ks cls
 ex:∃ φ pls,(∀ p∈pls,p.ob=noOb)∧(∀ b o v,φ0 b o=some v→φ b o=some v)∧(∀ b o v,φ b o=some v→old b→φ0 b o=some v)∧
  @WR _ (dcOf []) ⟨w,old,lt,cutEnv P (ghOf φ cls tb) pls⟩ (cutEnv P (ghOf φ cls tb) pls) (C.H P.globals.size) (C.nx P.globals.size) w∧
  TR (cutEnv P (ghOf φ cls tb) pls) C.tm fr.tmps∧TodoR (cutEnv P (ghOf φ cls tb) pls) C.todo fr.todo∧(∀ i b,i<K.box.length→C.box[i]? = some (some b)→pls[i]? = pls0[i]?)∧pls.length=C.box.length
section
variable [Tb]{P:Program}{k:Nat}{G:World→Prop}
theorem toCut_ok {old:Nat→Prop}{w0 w:World}{φ0 φ:Nat→Nat→Option Value}{pls0 pls:List Pl}{tb:Nat→List Cl→Cl}{K:Ctr}{bs:List (Option Bx)}{cls:List Cl}{C:Ct}{π:List Nat}{σ:List X}{o:Out}{cs:List Frame}{fr:Frame}{D:List (X×Bool)}
  (hext:ExtO old w0 w)(hlt:∀ b,old b→b<w.heap.size)(hpl:∀ p∈pls,p.ob=noOb)(h01:∀ b o v,φ0 b o=some v→φ b o=some v)(h10:∀ b o v,φ b o=some v→old b→φ0 b o=some v)
  (hglw:P.globals.size≤w.heap.size)(hn:K.box.length≤pls.length)(hkp:∀ i b,i<K.box.length→bs[i]? = some (some b)→pls[i]? = pls0[i]?)(hsub:∀ i b,i<K.box.length→C.box[i]? = some (some b)→∃ b',bs[i]? = some (some b'))
  (hfin : @Fin _ (dcOf D) P ⟨w,old,hlt,cutEnv P (ghOf φ cls tb) pls⟩ cs o fr cs w)(hC:C.ok P.globals.size=true)(hto:toCut P.globals.size K.f K.box.length C π σ o=some C.todo) :
  ∃ fr' w',Steps P (lone fr cs w) (lone fr' cs w')∧At P old w0 φ0 pls0 tb K C (σ.map (X.c (cutEnv P (ghOf φ cls tb) pls))) fr' w':=by
 letI:=dcOf D
 generalize hE:cutEnv P (ghOf φ cls tb) pls=E at *
 unfold toCut at hto
 split at hto
 case h_2=>cases hto
 rename_i todo c
 generalize hb:(Nat.beq c.fn K.f&&c.ds.isEmpty&&normalK c.kind&&c.round.isNone&&c.cs.isEmpty&&Nat.beq c.sz C.sl.length&&matchL P.globals.size π σ C.sl (c.tm.range undefV c.sz 0) &&
   boxesOk P.globals.size K.box.length C.box C.ks π σ c.H (V.plsL (c.tm.range undefV c.sz 0)++rangeN (Nat.succ P.globals.size) K.box.length)&&σ.all (X.at1 P.globals.size)&&todo.all AItem.pl0)=bb at hto
 cases bb with
 |false=>cases hto
 |true=>
 simp only[cond_true,Option.some.injEq] at hto
 subst hto
 simp only[Bool.and_eq_true] at hb
 obtain⟨⟨⟨⟨⟨⟨⟨⟨⟨b1,b2⟩,b3⟩,b4⟩,b5⟩,b6⟩,b7⟩,b8⟩,b11⟩,b13⟩:=hb
 obtain⟨E2,fr2,cs2,w2,hst,hmr⟩:=hfin _ _ _ rfl
 have e1:=Nat.eq_of_beq_eq_true b1
 have e6:=Nat.eq_of_beq_eq_true b6
 have hcs:cs2=cs:=by
  obtain⟨_,_,hf⟩:=hmr.frs
  cases hcc:c.cs with
  |nil=>rw[hcc] at hf;exact hf
  |cons _ _=>rw[hcc] at b5;cases b5
 subst hcs
 have hle:E.le E2:=hmr.wr.le
 have hsz2:fr2.tmps.size=C.sl.length:=hmr.size.trans e6
 have hpl0:=fun i hi=>List.all_eq_true.1 b13 i hi
 obtain⟨htd,htr⟩:TodoR E2 C.todo fr2.todo∧TR E2 c.tm fr2.tmps:=RunR.pl0 hpl0 hmr.rest
 have hvs:VRs E2 (c.tm.range undefV c.sz 0) fr2.tmps.toList:=VRs.ofTR htr c.sz 0 (by rw[hmr.size];omega)
 have hkn:∀ l∈V.plsL (c.tm.range undefV c.sz 0)++rangeN (Nat.succ P.globals.size) K.box.length,∃ p,E2 l=some p:=fun l hl=>by
  rcases List.mem_append.1 hl with hl|hl
  ·exact hvs.at l hl
  ·obtain⟨g1,g2⟩:=rangeN_mem.1 hl
   have e:P.globals.size+1+(l-(P.globals.size+1))=l:=by omega
   have hp:pls[l-(P.globals.size+1)]? = some pls[l-(P.globals.size+1)]:=List.getElem?_eq_getElem (by omega)
   exact⟨_,hle l _ (by rw[← hE];exact (congrArg (cutEnv P _ pls) e.symm).trans ((cutEnv_box _).trans hp))⟩
 have hden:σ.map (X.c E2)=σ.map (X.c E):=List.map_congr_left fun t ht=>by
  have hok:t.ok E:=by rw[← hE];exact okAt1c (List.all_eq_true.1 b11 t ht)
  unfold X.c;rw[X.den_mono hle hok]
 have hext2:ExtO old w w2:=⟨hmr.wr.old,hmr.wr.size,hmr.wr.os,hmr.wr.output,hmr.wr.tape⟩
 have hlt2:∀ b,old b→b<w2.heap.size:=fun b hb=>Nat.lt_of_lt_of_le (hlt b hb) hmr.wr.size
 have hsz0:0<w2.heap.size:=(hmr.wr.own _ _ (hle _ _ (by rw[← hE];exact cutEnv_at))).1
 have hb8:=b8
 unfold boxesOk at hb8
 simp only[Bool.and_eq_true] at hb8
 obtain⟨⟨⟨⟨c1,c2⟩,c3⟩,c4⟩,c5⟩:=hb8
 obtain⟨_,hbg⟩:=matchBs_get c1
 have hcan:=canon_ok (tb:=tb) hmr.wr hmr.gl (Nat.le_trans hglw hmr.wr.size) hsz0 hkn b8 (fun t ht=>X.ok_mono hle (by rw[← hE];exact okAt1c (List.all_eq_true.1 b11 t ht))) old hlt2 fun i b l q h1 h2 h3 h4=>by
  obtain⟨l',hl',hm⟩:=hbg i b h1
  rw[h3] at hl';cases hl'
  obtain⟨a1,_,a3,_⟩:=matchB_no hm
  rcases (hmr.wr.own l q h4).2 with g|g|g
  ·exact absurd g a1
  ·have:=a3 g;rw[h2] at this;cases this
  ·exact g
 have hwr:=hcan.wr
 have hslots:=hcan.vrs _ _ _ b7 hvs
 have hwts:=hcan.kinds _ _ hslots hC
 rw[hden] at hwr hslots hwts
 refine⟨fr2,w2,hst,⟨hext.trans hext2,hlt2,hmr.fn.trans e1,?_,?_,?_,hmr.mode,hsz2,hwts,fzF E2.fz,π.map (plOf E2),fun p hp=>?_,fun b o v h=>?_,fun b o v h hb=>?_,hwr,TR.ofVRs hslots,TodoR.pl0 hpl0 htd,fun i b hi hbi=>?_,by rw[List.length_map];exact hcan.len⟩⟩
 ·rw[hmr.kind];cases hk:c.kind<;>first|rfl|(rw[hk] at b3;cases b3)
 ·have:=hmr.round
  cases hr:c.round with
  |none=>rw[hr] at this;exact this
  |some _=>rw[hr] at b4;cases b4
 ·have:=hmr.defers
  cases hd:c.ds with
  |nil=>rw[hd] at this;exact this
  |cons _ _=>rw[hd] at b2;cases b2
 ·obtain⟨l,_,rfl⟩:=List.mem_map.1 hp;exact plOf_ob
 ·refine (hcan.fz b o v).2 (Env.fz_mono hle ?_)
  rw[← hE,cutEnv_fz hpl]
  exact h01 b o v h
 ·obtain⟨l,p,hl,hv⟩:=fzF_spec h
  have h2:E.fz b o v:=hmr.wr.fzo l p hl b o v hv hb
  rw[← hE,cutEnv_fz hpl] at h2
  exact h10 b o v h2 hb
 ·have hk:=keptB_ok c4 i b hi hbi
  rw[Nat.zero_add] at hk
  obtain⟨b',hb'⟩:=hsub i b hi hbi
  rw[List.getElem?_map,hk,← hkp i b' hi hb']
  have hp:pls[i]? = some pls[i]:=List.getElem?_eq_getElem (by omega)
  have hEi:E2 (P.globals.size+1+i)=some pls[i]:=hle _ _ (by rw[← hE,cutEnv_box];exact hp)
  have ho:=hpl _ (List.mem_of_getElem? hp)
  rw[hp]
  simp only[Option.map_some,plOf_some hEi]
  rw[← ho]
def CtrR (P:Program)(old:Nat→Prop)(w0:World)(φ0:Nat→Nat→Option Value)(pls0:List Pl)(tb:Nat→List Cl→Cl)(K:Ctr)(r:List Cl)(e:Ending)(w':World):Prop:=
 ∃ x φ' pls',∃ hlt:∀ b,old b→b<w'.heap.size,e=.returned x∧(∀ p∈pls',p.ob=noOb)∧(∀ b o v,φ0 b o=some v→φ' b o=some v)∧(∀ b o v,φ' b o=some v→old b→φ0 b o=some v)∧ExtO old w0 w'∧
  @WR _ (dcOf []) ⟨w',old,hlt,cutEnv P (ghOf φ' r tb) pls'⟩ (cutEnv P (ghOf φ' r tb) pls') (heapB P.globals.size K.bs') (P.globals.size+1+K.bs'.length) w'∧
  VR (cutEnv P (ghOf φ' r tb) pls') K.res x∧Wts K.ks' r∧pls'.length=K.bs'.length∧∀ i b,i<K.box.length→K.bs'[i]? = some (some b)→pls'[i]? = pls0[i]?
theorem toRet_ok {old:Nat→Prop}{w0 w:World}{φ0 φ:Nat→Nat→Option Value}{pls0 pls:List Pl}{tb:Nat→List Cl→Cl}{K:Ctr}{bs:List (Option Bx)}{cls:List Cl}{π:List Nat}{σ:List X}{o:Out}{cs:List Frame}{fr:Frame}{D:List (X×Bool)}
  (hext:ExtO old w0 w)(hlt:∀ b,old b→b<w.heap.size)(hpl:∀ p∈pls,p.ob=noOb)(h01:∀ b o v,φ0 b o=some v→φ b o=some v)(h10:∀ b o v,φ b o=some v→old b→φ0 b o=some v)
  (hglw:P.globals.size≤w.heap.size)(hn:K.box.length≤pls.length)(hkp:∀ i b,i<K.box.length→bs[i]? = some (some b)→pls[i]? = pls0[i]?)(hsub:∀ i b,i<K.box.length→K.bs'[i]? = some (some b)→∃ b',bs[i]? = some (some b'))
  (hfin : @Fin _ (dcOf D) P ⟨w,old,hlt,cutEnv P (ghOf φ cls tb) pls⟩ cs o fr cs w)(hK:K.ok P.globals.size=true)(hret:retB P P.globals.size K π σ o=true) :
  Ends P K.f cs fr w (CtrR P old w0 φ0 pls0 tb K (σ.map (X.c (cutEnv P (ghOf φ cls tb) pls)))):=by
 letI:=dcOf D
 generalize hE:cutEnv P (ghOf φ cls tb) pls=E at *
 unfold retB at hret
 split at hret
 case h_2=>cases hret
 rename_i v0 H0 nx0 hf
 generalize hfz:frzP K.res v0 H0 nx0=rr at hret
 obtain⟨v,H',nx'⟩:=rr
 simp only[Bool.and_eq_true] at hret
 obtain⟨⟨b1,b8⟩,b11⟩:=hret
 simp only[Ctr.ok,Bool.and_eq_true] at hK
 refine (fin_ends hfin hf).mono fun e w' ⟨x,E0',he,hx0,hwr0',hgl0⟩=>?_
 obtain⟨E',hle0,hx,hwr⟩:=frzP_ok hwr0' hx0 hfz
 have hgl:∀ g,g<P.globals.size→∃ s,E' g=some ⟨g,0,s,undef,noOb,[]⟩:=fun g hg=>by obtain⟨s,hs⟩:=hgl0 g hg;exact⟨s,hle0 _ _ hs⟩
 have hle:E.le E':=hwr.le
 have hkn:∀ l∈V.pls v++rangeN (Nat.succ P.globals.size) K.box.length,∃ p,E' l=some p:=fun l hl=>by
  rcases List.mem_append.1 hl with hl|hl
  ·exact hx.at l hl
  ·obtain⟨g1,g2⟩:=rangeN_mem.1 hl
   have e:P.globals.size+1+(l-(P.globals.size+1))=l:=by omega
   have hp:pls[l-(P.globals.size+1)]? = some pls[l-(P.globals.size+1)]:=List.getElem?_eq_getElem (by omega)
   exact⟨_,hle l _ (by rw[← hE];exact (congrArg (cutEnv P _ pls) e.symm).trans ((cutEnv_box _).trans hp))⟩
 have hden:σ.map (X.c E')=σ.map (X.c E):=List.map_congr_left fun t ht=>by
  have hok:t.ok E:=by rw[← hE];exact okAt1c (List.all_eq_true.1 b11 t ht)
  unfold X.c;rw[X.den_mono hle hok]
 have hext2:ExtO old w w':=⟨hwr.old,hwr.size,hwr.os,hwr.output,hwr.tape⟩
 have hlt2:∀ b,old b→b<w'.heap.size:=fun b hb=>Nat.lt_of_lt_of_le (hlt b hb) hwr.size
 have hsz0:0<w'.heap.size:=(hwr.own _ _ (hle _ _ (by rw[← hE];exact cutEnv_at))).1
 have hb8:=b8
 unfold boxesOk at hb8
 simp only[Bool.and_eq_true] at hb8
 obtain⟨⟨⟨⟨c1,c2⟩,c3⟩,c4⟩,c5⟩:=hb8
 obtain⟨_,hbg⟩:=matchBs_get c1
 have hcan:=canon_ok (tb:=tb) hwr hgl (Nat.le_trans hglw hwr.size) hsz0 hkn b8 (fun t ht=>X.ok_mono hle (by rw[← hE];exact okAt1c (List.all_eq_true.1 b11 t ht))) old hlt2 fun i b l q h1 h2 h3 h4=>by
  obtain⟨l',hl',hm⟩:=hbg i b h1
  rw[h3] at hl';cases hl'
  obtain⟨a1,_,a3,_⟩:=matchB_no hm
  rcases (hwr.own l q h4).2 with g|g|g
  ·exact absurd g a1
  ·have:=a3 g;rw[h2] at this;cases this
  ·exact g
 have hwr2:=hcan.wr
 have hres:=hcan.vr _ _ _ b1 hx
 have hwts:=hcan.kinds _ _ (.cons _ _ _ _ hres .nil) hK.1
 rw[hden] at hwr2 hres hwts
 refine⟨x,fzF E'.fz,π.map (plOf E'),hlt2,he,fun p hp=>?_,fun b o v h=>?_,fun b o v h hb=>?_,hext.trans hext2,hwr2,hres,hwts,by rw[List.length_map];exact hcan.len,fun i b hi hbi=>?_⟩
 ·obtain⟨l,_,rfl⟩:=List.mem_map.1 hp;exact plOf_ob
 ·refine (hcan.fz b o v).2 (Env.fz_mono hle ?_)
  rw[← hE,cutEnv_fz hpl]
  exact h01 b o v h
 ·obtain⟨l,p,hl,hv⟩:=fzF_spec h
  have h2:E.fz b o v:=hwr.fzo l p hl b o v hv hb
  rw[← hE,cutEnv_fz hpl] at h2
  exact h10 b o v h2 hb
 ·have hk:=keptB_ok c4 i b hi hbi
  rw[Nat.zero_add] at hk
  obtain⟨b',hb'⟩:=hsub i b hi hbi
  rw[List.getElem?_map,hk,← hkp i b' hi hb']
  have hp:pls[i]? = some pls[i]:=List.getElem?_eq_getElem (by omega)
  have hEi:E' (P.globals.size+1+i)=some pls[i]:=hle _ _ (by rw[← hE,cutEnv_box];exact hp)
  have ho:=hpl _ (List.mem_of_getElem? hp)
  rw[hp]
  simp only[Option.map_some,plOf_some hEi]
  rw[← ho]
end
end Go.Exo

namespace Go.Exo
set_option linter.unusedSectionVars false
inductive Tr where
 |leaf (n:Nat)(to:To)
 |ask (t:X)(a b:Tr)
 |must (t:X)(c:Bool)(a:Tr)
def Tr.paths:Tr→List (X×Bool)→List Pth
 |.leaf n to,pre=>[⟨pre,n,to⟩]
 |.ask t a b,pre=>a.paths (pre++[(t,true)])++b.paths (pre++[(t,false)])
 |.must t c a,pre=>a.paths (pre++[(t,c)])
def Tr.vc (E:Env)(Q:To→Prop):Tr→Prop
 |.leaf _ to=>Q to
 |.ask t a b=>(∃ c,t.c E=.bool c)∧(t.c E=.bool true→a.vc E Q)∧(t.c E=.bool false→b.vc E Q)
 |.must t c a=>t.c E=.bool c∧a.vc E Q
open Classical in
noncomputable def Tr.ev (E:Env):Tr→To
 |.leaf _ to=>to
 |.ask t a b=>if t.c E=.bool true then a.ev E else b.ev E
 |.must _ _ a=>a.ev E
theorem holds_append {E:Env}{a b:List (X×Bool)}:holds E (a++b)↔holds E a∧holds E b:=by
 simp only[holds,List.mem_append]
 exact⟨fun h=>⟨fun x hx=>h x (.inl hx),fun x hx=>h x (.inr hx)⟩,fun⟨h1,h2⟩ x hx=>hx.elim (h1 x) (h2 x)⟩
theorem Tr.cover {E:Env}{Q:To→Prop}:∀ {tr:Tr}{pre:List (X×Bool)},tr.vc E Q→holds E pre→∃ p∈tr.paths pre,holds E p.decs∧p.to=tr.ev E∧Q p.to
 |.leaf n to,pre,h,hp=>⟨_,List.mem_singleton.2 rfl,hp,rfl,h⟩
 |.ask t a b,pre,⟨⟨c,hc⟩,h1,h2⟩,hp=>by
  cases c with
  |true=>
   obtain⟨p,g1,g2,g3,g4⟩:=Tr.cover (pre:=pre++[(t,true)]) (h1 hc) (holds_append.2 ⟨hp,by simp[holds,hc]⟩)
   refine⟨p,List.mem_append_left _ g1,g2,?_,g4⟩
   rw[Tr.ev,if_pos hc];exact g3
  |false=>
   obtain⟨p,g1,g2,g3,g4⟩:=Tr.cover (pre:=pre++[(t,false)]) (h2 hc) (holds_append.2 ⟨hp,by simp[holds,hc]⟩)
   refine⟨p,List.mem_append_right _ g1,g2,?_,g4⟩
   rw[Tr.ev,if_neg (by rw[hc];intro h;cases h)];exact g3
 |.must t c a,pre,⟨hc,h1⟩,hp=>by
  obtain⟨p,g1,g2,g3,g4⟩:=Tr.cover (pre:=pre++[(t,c)]) h1 (holds_append.2 ⟨hp,by simp[holds,hc]⟩)
  exact⟨p,g1,g2,g3,g4⟩
def To.at1 (L:Nat):To→Bool
 |.ret _ σ=>σ.all (X.at1 L)
 |.cut _ _ σ=>σ.all (X.at1 L)
def Tr.at1 (L:Nat):Tr→Bool
 |.leaf _ to=>to.at1 L
 |.ask t a b=>t.at1 L&&(a.at1 L&&b.at1 L)
 |.must t _ a=>t.at1 L&&a.at1 L
theorem at1_2 {L:Nat}{a b:X}(h:(a.pls++b.pls).all (Nat.beq L)=true):a.at1 L=true∧b.at1 L=true:=by
 rw[List.all_append,Bool.and_eq_true] at h;exact h
theorem at1_3 {L:Nat}{a b c:X}(h:(a.pls++(b.pls++c.pls)).all (Nat.beq L)=true):a.at1 L=true∧b.at1 L=true∧c.at1 L=true:=by
 rw[List.all_append,List.all_append,Bool.and_eq_true,Bool.and_eq_true] at h;exact h
theorem X.den_dat {E E':Env}{L:Nat}{vl:Nat→Cl}{fn:Nat→List Cl→Cl}(h:DatE E L vl fn)(h':DatE E' L vl fn):∀ {t:X},t.at1 L=true→t.den E=t.den E':=by
 intro t
 induction t with
 |var l i k=>
  intro ht
  have:l=L:=by simp only[X.at1,X.pls,List.all_cons,List.all_nil,Bool.and_true] at ht;exact (Nat.eq_of_beq_eq_true ht).symm
  subst this;rw[h.var,h'.var]
 |bin _ a b iha ihb=>intro ht;obtain⟨h1,h2⟩:=at1_2 ht;simp only[X.den,iha h1,ihb h2]
 |inr a b iha ihb=>intro ht;obtain⟨h1,h2⟩:=at1_2 ht;simp only[X.den,iha h1,ihb h2]
 |cmp a b iha ihb=>intro ht;obtain⟨h1,h2⟩:=at1_2 ht;simp only[X.den,iha h1,ihb h2]
 |atx a b iha ihb=>intro ht;obtain⟨h1,h2⟩:=at1_2 ht;simp only[X.den,iha h1,ihb h2]
 |el a b _ _ iha ihb=>intro ht;obtain⟨h1,h2⟩:=at1_2 ht;simp only[X.den,iha h1,ihb h2]
 |snoc a b iha ihb=>intro ht;obtain⟨h1,h2⟩:=at1_2 ht;simp only[X.den,iha h1,ihb h2]
 |cat a b iha ihb=>intro ht;obtain⟨h1,h2⟩:=at1_2 ht;simp only[X.den,iha h1,ihb h2]
 |cons a b iha ihb=>intro ht;obtain⟨h1,h2⟩:=at1_2 ht;simp only[X.den,iha h1,ihb h2]
 |un _ a ih=>intro ht;simp only[X.den,ih ht]
 |conv _ a ih=>intro ht;simp only[X.den,ih ht]
 |len a ih=>intro ht;simp only[X.den,ih ht]
 |isnil a ih=>intro ht;simp only[X.den,ih ht]
 |rng a b c iha ihb ihc=>intro ht;obtain⟨h1,h2,h3⟩:=at1_3 ht;simp only[X.den,iha h1,ihb h2,ihc h3]
 |sub a b c iha ihb ihc=>intro ht;obtain⟨h1,h2,h3⟩:=at1_3 ht;simp only[X.den,iha h1,ihb h2,ihc h3]
 |cut a b c iha ihb ihc=>intro ht;obtain⟨h1,h2,h3⟩:=at1_3 ht;simp only[X.den,iha h1,ihb h2,ihc h3]
 |app l f a k ih=>
  intro ht
  have ht':(l::a.pls).all (Nat.beq L)=true:=ht
  rw[List.all_cons,Bool.and_eq_true] at ht'
  have:l=L:=(Nat.eq_of_beq_eq_true ht'.1).symm
  subst this;rw[h.app,h'.app,ih ht'.2]
 |_=>exact fun _=>rfl
theorem X.c_dat {E E':Env}{L:Nat}{vl:Nat→Cl}{fn:Nat→List Cl→Cl}(h:DatE E L vl fn)(h':DatE E' L vl fn){t:X}(ht:t.at1 L=true):t.c E=t.c E':=by unfold X.c;rw[X.den_dat h h' ht]
theorem X.cs_dat {E E':Env}{L:Nat}{vl:Nat→Cl}{fn:Nat→List Cl→Cl}(h:DatE E L vl fn)(h':DatE E' L vl fn){l:List X}(hl:l.all (X.at1 L)=true):l.map (X.c E)=l.map (X.c E'):=
 List.map_congr_left fun t ht=>X.c_dat h h' (List.all_eq_true.1 hl t ht)
theorem Tr.ev_dat {E E':Env}{L:Nat}{vl:Nat→Cl}{fn:Nat→List Cl→Cl}(h:DatE E L vl fn)(h':DatE E' L vl fn):∀ {tr:Tr},tr.at1 L=true→tr.ev E=tr.ev E'
 |.leaf _ _,_=>rfl
 |.ask t a b,ht=>by
  simp only[Tr.at1,Bool.and_eq_true] at ht
  rw[Tr.ev,Tr.ev,X.c_dat h h' ht.1,Tr.ev_dat h h' ht.2.1,Tr.ev_dat h h' ht.2.2]
 |.must t c a,ht=>by
  simp only[Tr.at1,Bool.and_eq_true] at ht
  rw[Tr.ev,Tr.ev,Tr.ev_dat h h' ht.2]
theorem Tr.ev_at1 {E:Env}{L:Nat}:∀ {tr:Tr},tr.at1 L=true→(tr.ev E).at1 L=true
 |.leaf _ _,h=>h
 |.ask t a b,ht=>by
  simp only[Tr.at1,Bool.and_eq_true] at ht
  rw[Tr.ev]
  split
  ·exact Tr.ev_at1 ht.2.1
  ·exact Tr.ev_at1 ht.2.2
 |.must t c a,ht=>by
  simp only[Tr.at1,Bool.and_eq_true] at ht
  rw[Tr.ev];exact Tr.ev_at1 ht.2
def datEnv (L:Nat)(tb:Nat→List Cl→Cl)(cls:List Cl):Env:=fun l=>if l=L then some ⟨0,0,0,undef,ghOf (fun _ _=>none) cls tb,[]⟩ else none
theorem datEnv_dat {L:Nat}{tb:Nat→List Cl→Cl}{cls:List Cl}:DatE (datEnv L tb cls) L (fun i=>cls.getD i .no) tb:=⟨_,if_pos rfl,rfl,rfl⟩
inductive RunT (L:Nat)(tb:Nat→List Cl→Cl)(trs:List Tr):Tr→List Cl→List Cl→Prop where
 |ret {tr:Tr}{cls:List Cl}{π:List Nat}{σ:List X}:tr.ev (datEnv L tb cls)=.ret π σ→RunT L tb trs tr cls (σ.map (X.c (datEnv L tb cls)))
 |cut {tr tr':Tr}{cls:List Cl}{j:Nat}{π:List Nat}{σ:List X}{r:List Cl}:tr.ev (datEnv L tb cls)=.cut j π σ→trs[j]? = some tr'→RunT L tb trs tr' (σ.map (X.c (datEnv L tb cls))) r→RunT L tb trs tr cls r
theorem RunT.det {L:Nat}{tb:Nat→List Cl→Cl}{trs:List Tr}{tr:Tr}{cls r r':List Cl}(h:RunT L tb trs tr cls r)(h':RunT L tb trs tr cls r'):r=r':=by
 induction h with
 |ret h1=>
  cases h' with
  |ret h2=>rw[h1] at h2;cases h2;rfl
  |cut h2 _ _=>rw[h1] at h2;cases h2
 |cut h1 h2 _ ih=>
  cases h' with
  |ret h3=>rw[h1] at h3;cases h3
  |cut h3 h4 h5=>rw[h1] at h3;cases h3;rw[h2] at h4;cases h4;exact ih h5
def To.goodT (Inv:Nat→List Cl→List Cl→Prop)(bd:Nat→List Cl→Prop)(Post:List Cl→List Cl→Prop)(cls0:List Cl)(E:Env):To→Prop
 |.ret _ σ=>Post cls0 (σ.map (X.c E))
 |.cut j _ σ=>Inv j cls0 (σ.map (X.c E))∧bd j (σ.map (X.c E))
variable [Sx] [Tb]{P:Program}{k:Nat}{G:World→Prop}
def Ctr.Sound (P:Program)(k:Nat)(G:World→Prop)(K:Ctr)(tb:Nat→List Cl→Cl)(Pre:List Cl→Prop)(F:List Cl→List Cl):Prop:=
 ∀ (w:World)(old:Nat→Prop)(hold:∀ b,old b→b<w.heap.size)(φ:Nat→Nat→Option Value)(pls:List Pl)(cls:List Cl)(xs:List Value),G w→(∀ i,i<k→old i)→(∀ p∈pls,p.ob=noOb)→pls.length=K.box.length→
  @WR _ (dcOf []) ⟨w,old,hold,cutEnv P (ghOf φ cls tb) pls⟩ (cutEnv P (ghOf φ cls tb) pls) (heapB P.globals.size K.bs) (P.globals.size+1+K.bs.length) w→VRs (cutEnv P (ghOf φ cls tb) pls) K.args xs→Wts K.ks cls→Pre cls→
  Calls P K.f xs.toArray w (CtrR P old w φ pls tb K (F cls))
def Vc0 (tb:Nat→List Cl→Cl)(L:Nat)(ks:List Kd)(Pre:List Cl→Prop)(Inv:Nat→List Cl→List Cl→Prop)(Post:List Cl→List Cl→Prop)(tr:Tr):Prop:=
 ∀ cls E,DatE E L (fun i=>cls.getD i .no) tb→Wts ks cls→Pre cls→tr.vc E (To.goodT Inv (fun _ _=>True) Post cls E)
def Vc {α:Type}(lt:α→α→Prop)(m:Nat→List Cl→α)(tb:Nat→List Cl→Cl)(L:Nat)(ks:List Kd)(Inv:Nat→List Cl→List Cl→Prop)(Post:List Cl→List Cl→Prop)(i:Nat)(tr:Tr):Prop:=
 ∀ cls0 cls E,DatE E L (fun i=>cls.getD i .no) tb→Wts ks cls→Inv i cls0 cls→tr.vc E (To.goodT Inv (fun j c=>lt (m j c) (m i cls)) Post cls0 E)
def VcOk {α:Type}(P:Program)(hk:Dc→Hook)(L:Nat)(K:Ctr)(cuts:List Ct)(lt:α→α→Prop)(m:Nat→List Cl→α)(tb:Nat→List Cl→Cl)(Inv:Nat→List Cl→List Cl→Prop)(Post:List Cl→List Cl→Prop):List Ct→List Tr→Nat→Prop
 |[],[],_=>True
 |C::Cs,tr::trs,i=>(Pth.allC P hk L K cuts C (tr.paths [])∧Vc lt m tb L C.ks Inv Post i tr)∧VcOk P hk L K cuts lt m tb Inv Post Cs trs (i+1)
 |_,_,_=>False
theorem VcOk.get {α:Type}{hk:Dc→Hook}{L:Nat}{K:Ctr}{cuts:List Ct}{lt:α→α→Prop}{m:Nat→List Cl→α}{tb:Nat→List Cl→Cl}{Inv:Nat→List Cl→List Cl→Prop}{Post:List Cl→List Cl→Prop} :
  ∀ {Cs:List Ct}{trs:List Tr}{n:Nat},VcOk P hk L K cuts lt m tb Inv Post Cs trs n→∀ i C,Cs[i]? = some C→∃ tr,trs[i]? = some tr∧Pth.allC P hk L K cuts C (tr.paths [])∧Vc lt m tb L C.ks Inv Post (n+i) tr
 |[],[],_,_,i,C,hC=>by simp at hC
 |[],_::_,_,h,_,_,_=>h.elim
 |_::_,[],_,h,_,_,_=>h.elim
 |D::Cs,tr::trs,n,h,i,C,hC=>by
  cases i with
  |zero=>simp at hC;subst hC;exact⟨tr,rfl,h.1⟩
  |succ i=>
   obtain⟨tr,h0,h1,h2⟩:=VcOk.get h.2 i C (by simpa using hC)
   exact⟨tr,by simpa using h0,h1,by rw[show n+(i+1)=n+1+i by omega];exact h2⟩
def cutsOk (L:Nat)(K:Ctr)(cuts:List Ct)(trs:List Tr):Bool:=cuts.all (fun C=>C.ok L&&liveB K.box.length C.box)&&trs.all (Tr.at1 L)&&K.ok L
section
variable {α:Type}{lt:α→α→Prop}{m:Nat→List Cl→α}{Inv:Nat→List Cl→List Cl→Prop}{Post:List Cl→List Cl→Prop}{hk:Dc→Hook}
theorem cut_endsT (wf:WellFounded lt)(hG:Gd0 k G)(hok:∀ D,@Hooks _ (dcOf D) _ P k G (hk (dcOf D)))(hsz:P.globals.size≤k)
  {tb:Nat→List Cl→Cl}(htb:Tb.tab=some (P.globals.size,tb)){K:Ctr}{cuts:List Ct}{trs:List Tr}(hcuts:∀ C∈cuts,C.ok P.globals.size=true∧liveB K.box.length C.box=true)(hK:K.ok P.globals.size=true)(hat1:trs.all (Tr.at1 P.globals.size)=true)
  (hvc:VcOk P hk P.globals.size K cuts lt m tb Inv Post cuts trs 0){old:Nat→Prop}{w0:World}{φ0:Nat→Nat→Option Value}{pls0:List Pl}(hw0:G w0)(hkw:∀ i,i<k→old i){cs:List Frame}{cls0:List Cl} :
  ∀ a,∀ (i:Nat) C tr cls fr w,cuts[i]? = some C→trs[i]? = some tr→m i cls=a→Inv i cls0 cls→At P old w0 φ0 pls0 tb K C cls fr w→∃ r,RunT P.globals.size tb trs tr cls r∧Post cls0 r∧Ends P K.f cs fr w (CtrR P old w0 φ0 pls0 tb K r):=by
 intro a
 induction a using wf.induction with
 |_ a iha=>
 intro i C tr cls fr w hC htr' ha hinv hat
 obtain⟨hext,hlt,hfn,hkind,hround,hdef,hmode,hsize,hwt,φ,pls,hpl,h01,h10,hwr0,htr,htd,hkp,hpln⟩:=hat
 obtain⟨tr2,e2,hpok,hobl⟩:=hvc.get i C hC
 rw[htr'] at e2
 cases e2
 rw[Nat.zero_add] at hobl
 have hdat:DatE (cutEnv P (ghOf φ cls tb) pls) P.globals.size (fun i=>cls.getD i .no) tb:=⟨_,cutEnv_at,rfl,rfl⟩
 have htr1:=List.all_eq_true.1 hat1 tr (List.mem_of_getElem? htr')
 obtain⟨p,hp,hh,hev,hto⟩:=Tr.cover (pre:=[]) (hobl cls0 cls _ hdat hwt hinv) (by simp[holds])
 have hev':=hev.trans (Tr.ev_dat hdat datEnv_dat htr1)
 obtain⟨hd,hok2⟩:=Pth.allC_mem hpok p hp
 letI:=dcOf p.decs
 have hw:=WR.withD (D:=p.decs) hwr0 fun t b hdd=>⟨okAt1c (decOf_at hdd hd),decOf_ok hdd hh⟩
 have hgw:G w:=hG.keep w0 w (fun b hb=>hext.old b (hkw b hb)) hw0
 have hglw:P.globals.size≤w.heap.size:=Nat.le_trans hsz (hG.size w hgw)
 have hgb:GB k G (⟨w,old,hlt,cutEnv P (ghOf φ cls tb) pls⟩:Bs):=
  ⟨hkw,hgw,fun pl fn' ht=>by rw[htb] at ht;cases ht;exact⟨_,cutEnv_at,rfl⟩⟩
 have hmr:MR P (⟨w,old,hlt,cutEnv P (ghOf φ cls tb) pls⟩:Bs) cs (cutEnv P (ghOf φ cls tb) pls) .run C.todo (C.ctx P.globals.size K.f) fr cs w:=
  ⟨hw,cutEnv_gl,⟨0,Nat.zero_le _,rfl⟩,hfn,hkind,hround,hdef,hmode,hsize,RunR.of htd htr⟩
 have hfin:=run_sound hG (hok p.decs) p.n _ cs hgb _ _ _ _ _ _ _ hmr
 have hat0:=Tr.ev_at1 (E:=datEnv P.globals.size tb cls) htr1
 have hlive:=liveB_ok (hcuts C (List.mem_of_getElem? hC)).2
 have hnb:K.box.length≤pls.length:=by rw[hpln];exact liveB_len (hcuts C (List.mem_of_getElem? hC)).2
 cases hpt:p.to with
 |ret π σ=>
  rw[hpt] at hok2 hto hev'
  rw[← hev'] at hat0
  have hto':Post cls0 (σ.map (X.c (cutEnv P (ghOf φ cls tb) pls))):=hto
  have e:=X.cs_dat hdat datEnv_dat hat0
  refine⟨_,.ret hev'.symm,by rw[← e];exact hto',?_⟩
  rw[← e]
  exact toRet_ok (bs:=C.box) hext hlt hpl h01 h10 hglw hnb hkp (fun i b hi _=>hlive i hi) hfin hK hok2
 |cut j π σ=>
  rw[hpt] at hok2 hto hev'
  rw[← hev'] at hat0
  obtain⟨C',hC',hck⟩:=hok2
  obtain⟨hg2,hlt2⟩:=hto
  obtain⟨tr',htj,_,_⟩:=hvc.get j C' hC'
  obtain⟨fr',w',hst,hat'⟩:=toCut_ok (bs:=C.box) hext hlt hpl h01 h10 hglw hnb hkp (fun i b hi _=>hlive i hi) hfin (hcuts C' (List.mem_of_getElem? hC')).1 hck
  obtain⟨r,r1,r2,r3⟩:=iha _ (by rw[← ha];exact hlt2) j C' tr' _ fr' w' hC' htj rfl hg2 hat'
  have e:=X.cs_dat hdat datEnv_dat hat0
  rw[e] at r1
  exact⟨r,.cut hev'.symm htj r1,r2,Ends.steps hst r3⟩
theorem run_T (wf:WellFounded lt)(hG:Gd0 k G)(hok:∀ D,@Hooks _ (dcOf D) _ P k G (hk (dcOf D)))(hsz:P.globals.size≤k)
  {L:Nat}(hL:P.globals.size=L){tb:Nat→List Cl→Cl}(htb:Tb.tab=some (L,tb)){K:Ctr}{cuts:List Ct}{tr0:Tr}{trs:List Tr}(hcuts:cutsOk L K cuts (tr0::trs)=true)
  {Pre:List Cl→Prop}(hpok:Pth.allS P hk L K cuts (tr0.paths []))(hv0:Vc0 tb L K.ks Pre Inv Post tr0)(hvc:VcOk P hk L K cuts lt m tb Inv Post cuts trs 0)
  {w:World}{old:Nat→Prop}{hold:∀ b,old b→b<w.heap.size}{φ:Nat→Nat→Option Value}{pls:List Pl}{cls:List Cl}{xs:List Value}(hw:G w)(hkw:∀ i,i<k→old i)(hpl:∀ p∈pls,p.ob=noOb)(hln:pls.length=K.box.length)
  (hwr0 : @WR _ (dcOf []) ⟨w,old,hold,cutEnv P (ghOf φ cls tb) pls⟩ (cutEnv P (ghOf φ cls tb) pls) (heapB P.globals.size K.bs) (P.globals.size+1+K.bs.length) w)(hargs:VRs (cutEnv P (ghOf φ cls tb) pls) K.args xs)(hwt:Wts K.ks cls)(hp:Pre cls) :
  ∃ r,RunT L tb trs tr0 cls r∧Post cls r∧Calls P K.f xs.toArray w (CtrR P old w φ pls tb K r):=by
 subst hL
 simp only[cutsOk,Bool.and_eq_true] at hcuts
 obtain⟨⟨hc1,hat1⟩,hK⟩:=hcuts
 have hcuts':∀ C∈cuts,C.ok P.globals.size=true∧liveB K.box.length C.box=true:=fun C hC=>by have:=List.all_eq_true.1 hc1 C hC;simpa using this
 rw[List.all_cons,Bool.and_eq_true] at hat1
 have hdat:DatE (cutEnv P (ghOf φ cls tb) pls) P.globals.size (fun i=>cls.getD i .no) tb:=⟨_,cutEnv_at,rfl,rfl⟩
 obtain⟨p,hmem,hh,hev,hto⟩:=Tr.cover (pre:=[]) (hv0 cls _ hdat hwt hp) (by simp[holds])
 have hev':=hev.trans (Tr.ev_dat hdat datEnv_dat hat1.1)
 have hat0:=Tr.ev_at1 (E:=datEnv P.globals.size tb cls) hat1.1
 obtain⟨hd,hok2⟩:=Pth.allS_mem hpok p hmem
 have hglw:P.globals.size≤w.heap.size:=Nat.le_trans hsz (hG.size w hw)
 have hst:=letI:=dcOf p.decs;WR.withD (D:=p.decs) hwr0 fun t b hdd=>⟨okAt1c (decOf_at hdd hd),decOf_ok hdd hh⟩
 have hlive:∀ i,i<K.box.length→∃ b,K.bs[i]? = some (some b):=fun i hi=>⟨K.box[i],by unfold Ctr.bs;rw[List.getElem?_map,List.getElem?_eq_getElem hi];rfl⟩
 have key:∀ cs,∃ r,RunT P.globals.size tb trs tr0 cls r∧Post cls r∧Ends P K.f cs (Frame.enter P K.f xs.toArray .normal) w (CtrR P old w φ pls tb K r):=by
  intro cs
  letI:=dcOf p.decs
  have hgb:GB k G (⟨w,old,hold,cutEnv P (ghOf φ cls tb) pls⟩:Bs):=⟨hkw,hw,fun pl fn' ht=>by rw[htb] at ht;cases ht;exact⟨_,cutEnv_at,rfl⟩⟩
  have hfin:Fin P (⟨w,old,hold,cutEnv P (ghOf φ cls tb) pls⟩:Bs) cs (outS P hk P.globals.size K p.decs p.n) (Frame.enter P K.f xs.toArray .normal) cs w:=
   enter_ok (step_sound hG Hooks.nil (run_sound hG (hok p.decs) p.n) _ cs hgb) hst cutEnv_gl (afs:=[]) (frs:=cs) rfl hargs .normal
  cases hpt:p.to with
  |ret π σ=>
   rw[hpt] at hok2 hto hev'
   rw[← hev'] at hat0
   have hto':Post cls (σ.map (X.c (cutEnv P (ghOf φ cls tb) pls))):=hto
   have e:=X.cs_dat hdat datEnv_dat hat0
   refine⟨_,.ret hev'.symm,by rw[← e];exact hto',?_⟩
   rw[← e]
   exact toRet_ok (bs:=K.bs) (ExtO.refl old w) hold hpl (fun _ _ _ h=>h) (fun _ _ _ h _=>h) hglw (Nat.le_of_eq hln.symm) (fun _ _ _ _=>rfl) (fun i b hi _=>hlive i hi) hfin hK hok2
  |cut j π σ=>
   rw[hpt] at hok2 hto hev'
   rw[← hev'] at hat0
   obtain⟨C',hC',hck⟩:=hok2
   obtain⟨hg2,_⟩:=hto
   obtain⟨tr',htj,_,_⟩:=hvc.get j C' hC'
   obtain⟨fr',w',hst',hat'⟩:=toCut_ok (bs:=K.bs) (ExtO.refl old w) hold hpl (fun _ _ _ h=>h) (fun _ _ _ h _=>h) hglw (Nat.le_of_eq hln.symm) (fun _ _ _ _=>rfl) (fun i b hi _=>hlive i hi) hfin (hcuts' C' (List.mem_of_getElem? hC')).1 hck
   obtain⟨r,r1,r2,r3⟩:=cut_endsT wf hG hok hsz htb hcuts' hK hat1.2 hvc hw hkw _ j C' tr' _ fr' w' hC' htj rfl hg2 hat'
   have e:=X.cs_dat hdat datEnv_dat hat0
   rw[e] at r1
   exact⟨r,.cut hev'.symm htj r1,r2,Ends.steps hst' r3⟩
 obtain⟨r,h1,h2,_⟩:=key []
 refine⟨r,h1,h2,fun cs=>?_⟩
 obtain⟨r',g1,_,g3⟩:=key cs
 rw[h1.det g1];exact g3
theorem Ctr.ofT (wf:WellFounded lt)(m:Nat→List Cl→α)(Inv:Nat→List Cl→List Cl→Prop)(hG:Gd0 k G)(hok:∀ D,@Hooks _ (dcOf D) _ P k G (hk (dcOf D)))(hsz:P.globals.size≤k)
  {L:Nat}(hL:P.globals.size=L){tb:Nat→List Cl→Cl}(htb:Tb.tab=some (L,tb)){K:Ctr}{cuts:List Ct}{tr0:Tr}{trs:List Tr}(hcuts:cutsOk L K cuts (tr0::trs)=true)
  {Pre:List Cl→Prop}{F:List Cl→List Cl}(hpok:Pth.allS P hk L K cuts (tr0.paths []))(hv0:Vc0 tb L K.ks Pre Inv (fun cls r=>r=F cls) tr0)(hvc:VcOk P hk L K cuts lt m tb Inv (fun cls r=>r=F cls) cuts trs 0):K.Sound P k G tb Pre F:=by
 intro w old hold φ pls cls xs hw hkw hpl hln hwr hargs hwt hp
 obtain⟨r,_,h2,h3⟩:=run_T wf hG hok hsz hL htb hcuts hpok hv0 hvc hw hkw hpl hln hwr hargs hwt hp
 rw[← h2];exact h3
end
end Go.Exo

namespace Go.Exo
set_option linter.unusedSectionVars false
structure Un where
 pl:List (Option Nat)
 xs:List (Option X)
def setO {α:Type}:List (Option α)→Nat→α→List (Option α)
 |[],_,_=>[]
 |_::r,0,a=>some a::r
 |x::r,n+1,a=>x::setO r n a
def nones {α:Type}:Nat→List (Option α)
 |0=>[]
 |n+1=>none::nones n
def allSome {α:Type}:List (Option α)→Option (List α)
 |[]=>some []
 |some a::r=>(match allSome r with|some l=>some (a::l)|none=>none)
 |none::_=>none
mutual
def uniV (L:Nat):V→V→Un→Un
 |.x (.var _ j k),v,s=>(match toXk k v with|some t=>{ s with xs:=setO s.xs j t }|none=>s)
 |.lst l (.var _ j _),.lst l' t,s=>{ pl:=setO s.pl (Nat.sub l (Nat.succ L)) l',xs:=setO s.xs j t }
 |.ptr l _,.ptr l' _,s=>cond (Nat.ble (Nat.succ L) l) { s with pl:=setO s.pl (Nat.sub l (Nat.succ L)) l' } s
 |.slice l _ _ _ _,.slice l' _ _ _ _,s=>cond (Nat.ble (Nat.succ L) l) { s with pl:=setO s.pl (Nat.sub l (Nat.succ L)) l' } s
 |.agg a,.agg b,s=>uniL L a b s
 |.tup a,.tup b,s=>uniL L a b s
 |.iface _ v,.iface _ v',s=>uniV L v v' s
 |.func _ a b,.func _ a' b',s=>uniL L b b' (uniL L a a' s)
 |_,_,s=>s
def uniL (L:Nat):List V→List V→Un→Un
 |a::r,b::t,s=>uniL L r t (uniV L a b s)
 |_,_,s=>s
end
noncomputable def uniBs (L:Nat)(H:T AObj):List Bx→Nat→Un→Un
 |[],_,s=>s
 |b::r,i,s=>uniBs L H r (Nat.succ i) (match s.pl[i]? with
  |some (some l)=>(match b with
   |.cells _ cs _ _=>(match getH H l with|.cells vs len _ _ _ _ _=>uniL L cs (vs.range .bad len 0) s|_=>s)
   |.own _=>s)
  |_=>s)
def plR (L nb:Nat)(π:List Nat)(nx l:Nat):Nat:=
 cond (Nat.ble (Nat.succ L) l) (cond (Nat.ble (Nat.succ (Nat.sub l (Nat.succ L))) nb) (π.getD (Nat.sub l (Nat.succ L)) 0) (Nat.add (Nat.succ nx) (Nat.sub (Nat.sub l (Nat.succ L)) nb))) l
section
variable (L nb:Nat)(π:List Nat)(nx fi:Nat)(τ:X)
mutual
def instV:V→V
 |.x (.var _ j k)=>.x (.app L (Nat.add fi j) τ k)
 |.lst l (.var _ j k)=>.lst (plR L nb π nx l) (.app L (Nat.add fi j) τ k)
 |.ptr l o=>.ptr (plR L nb π nx l) o
 |.slice l o n c e=>.slice (plR L nb π nx l) o n c e
 |.agg cs=>.agg (instL cs)
 |.tup cs=>.tup (instL cs)
 |.iface t v=>.iface t (instV v)
 |.func f a b=>.func f (instL a) (instL b)
 |v=>v
def instL:List V→List V
 |[]=>[]
 |v::r=>instV v::instL r
end
noncomputable def instO:Bx→AObj
 |.cells el cs f r=>.cells (T.ofK .bad (instL L nb π nx fi τ cs) 0 .e id) cs.length el 0 0 f r
 |.own e=>.own e
noncomputable def instH:List Bz→Nat→T AObj→T AObj
 |[],_,H=>H
 |.set b::r,i,H=>instH r (Nat.succ i) (put .no H (plR L nb π nx (Nat.add (Nat.succ L) i)) (instO L nb π nx fi τ b))
 |.gone::r,i,H=>instH r (Nat.succ i) (put .no H (plR L nb π nx (Nat.add (Nat.succ L) i)) .no)
 |.same::r,i,H=>instH r (Nat.succ i) H
end
def isSetZ:Bz→Bool|.set _=>true|_=>false
def plOkB (L:Nat)(zs:List Bz)(l:Nat):Bool:=match zs[Nat.sub l (Nat.succ L)]? with|some z=>isSetZ z|none=>false
mutual
def patB (L nk:Nat)(zs:List Bz):V→Bool
 |.x (.var l j _)=>Nat.beq l L&&Nat.ble (Nat.succ j) nk
 |.lst l (.var l2 j _)=>Nat.ble (Nat.succ L) l&&plOkB L zs l&&Nat.beq l2 L&&Nat.ble (Nat.succ j) nk
 |.ptr l _=>cond (Nat.ble (Nat.succ L) l) (plOkB L zs l) (Nat.ble (Nat.succ l) L)
 |.slice l _ _ _ _=>Nat.ble (Nat.succ L) l&&plOkB L zs l
 |.agg cs=>patL L nk zs cs
 |.tup cs=>patL L nk zs cs
 |.iface _ v=>patB L nk zs v
 |.func (.func _) a b=>patL L nk zs a&&patL L nk zs b
 |.junk=>true
 |.x _|.lst _ _|.func _ _ _=>false
 |v=>v.fine
def patL (L nk:Nat)(zs:List Bz):List V→Bool
 |[]=>true
 |v::r=>patB L nk zs v&&patL L nk zs r
end
def wfZ (L nk:Nat)(zs:List Bz):List Bx→List Bz→Bool
 |[],[]=>true
 |[],.set b::r=>!b.ro&&patL L nk zs b.vs&&wfZ L nk zs [] r
 |[],_::_=>false
 |b::bs,.same::r=>b.ro&&wfZ L nk zs bs r
 |b::bs,.set c::r=>!b.ro && !c.ro&&patL L nk zs c.vs&&wfZ L nk zs bs r
 |b::bs,.gone::r=>!b.ro&&wfZ L nk zs bs r
 |_::_,[]=>false
def Ctr.wf (K:Ctr)(L:Nat):Bool:=wfZ L K.ks'.length K.box' K.box K.box'&&patB L K.ks'.length K.box' K.res&&ksIn L K.args K.bs K.ks 0
def needD [Dc](L:Nat)(pi:Option Nat)(τ:X):Bool:=match pi with|none=>true|some p=>(match Dc.dec (.app L p τ .bool) with|some true=>true|_=>false)
noncomputable def hkCtr [Dc](L:Nat)(K:Ctr)(fi:Nat)(pi:Option Nat):Hook:=fun g args H nx=>
 cond (Nat.beq g K.f) (match uniBs L H K.box 0 (uniL L K.args args ⟨nones K.box.length,nones K.ks.length⟩) with
  |⟨pl,xs⟩=>(match allSome pl,allSome xs with
   |some π,some σ=>cond (matchL L π σ K.args args&&boxesOk L 0 K.bs K.ks π σ H (V.plsL args)&&needD L pi (X.ofL σ))
     (some (instV L K.box.length π nx fi (X.ofL σ) K.res,instH L K.box.length π nx fi (X.ofL σ) K.box' 0 H,Nat.add (Nat.succ nx) (Nat.sub K.box'.length K.box.length))) none
   |_,_=>none)) none
theorem isSetZ_some {z:Bz}(h:isSetZ z=true):∃ b,z=.set b:=by cases z<;>first|exact⟨_,rfl⟩|cases h
theorem wfZ_ok {L nk:Nat}{zs:List Bz}:∀ {bs:List Bx}{r:List Bz},wfZ L nk zs bs r=true→bs.length≤r.length∧∀ (i:Nat) z,r[i]? = some z→
  (∀ b,bs[i]? = some b→(b.ro=true∧z=.same)∨(b.ro=false∧((∃ c,z=.set c∧c.ro=false∧patL L nk zs c.vs=true)∨z=.gone)))∧(bs[i]? = none→∃ c,z=.set c∧c.ro=false∧patL L nk zs c.vs=true)
 |[],[],_=>⟨Nat.le_refl _,fun i z h=>by simp at h⟩
 |[],.set c::r,h=>by
  simp only[wfZ,Bool.and_eq_true,Bool.not_eq_true'] at h
  refine⟨Nat.zero_le _,fun i z hz=>⟨fun b hb=>by simp at hb,fun _=>?_⟩⟩
  cases i with
  |zero=>simp at hz;subst hz;exact⟨c,rfl,h.1.1,h.1.2⟩
  |succ i=>exact ((wfZ_ok h.2).2 i z (by simpa using hz)).2 (by simp)
 |[],.same::_,h=>by simp[wfZ] at h
 |[],.gone::_,h=>by simp[wfZ] at h
 |b::bs,.same::r,h=>by
  simp only[wfZ,Bool.and_eq_true] at h
  obtain⟨h1,h2⟩:=wfZ_ok h.2
  refine⟨by simp;omega,fun i z hz=>?_⟩
  cases i with
  |zero=>simp at hz;subst hz;exact⟨fun b' hb=>by simp at hb;subst hb;exact .inl ⟨h.1,rfl⟩,fun hn=>by simp at hn⟩
  |succ i=>simpa using h2 i z (by simpa using hz)
 |b::bs,.set c::r,h=>by
  simp only[wfZ,Bool.and_eq_true,Bool.not_eq_true'] at h
  obtain⟨h1,h2⟩:=wfZ_ok h.2
  refine⟨by simp;omega,fun i z hz=>?_⟩
  cases i with
  |zero=>simp at hz;subst hz;exact⟨fun b' hb=>by simp at hb;subst hb;exact .inr ⟨h.1.1.1,.inl ⟨c,rfl,h.1.1.2,h.1.2⟩⟩,fun hn=>by simp at hn⟩
  |succ i=>simpa using h2 i z (by simpa using hz)
 |b::bs,.gone::r,h=>by
  simp only[wfZ,Bool.and_eq_true,Bool.not_eq_true'] at h
  obtain⟨h1,h2⟩:=wfZ_ok h.2
  refine⟨by simp;omega,fun i z hz=>?_⟩
  cases i with
  |zero=>simp at hz;subst hz;exact⟨fun b' hb=>by simp at hb;subst hb;exact .inr ⟨h.1,.inr rfl⟩,fun hn=>by simp at hn⟩
  |succ i=>simpa using h2 i z (by simpa using hz)
 |_::_,[],h=>by simp[wfZ] at h
section
variable [Sx] [Dc] [Tb]{Ec E2:Env}{L nb:Nat}{π:List Nat}{nx fi:Nat}{τ:X}{zs:List Bz}{vl:Nat→Cl}{nk:Nat}
mutual
theorem instV_ok (hp:∃ p,Ec L=some p∧p.ob.vl=vl)(hfz:∀ b o v,Ec.fz b o v→E2.fz b o v)(hden:∀ j k,j<nk→(X.app L (Nat.add fi j) τ k).ok E2∧Cl.hd ((X.app L (Nat.add fi j) τ k).den E2)=vl j)
  (hpl:∀ l,L<l→plOkB L zs l=true→∀ q,Ec l=some q→∃ q',E2 (plR L nb π nx l)=some q'∧q'.blk=q.blk∧q'.base=q.base∧q'.size=q.size)(hgl:∀ l,l<L→∀ q,Ec l=some q→∃ q',E2 l=some q'∧q'.blk=q.blk∧q'.base=q.base) :
  ∀ {p:V}{x:Value},patB L nk zs p=true→VR Ec p x→VR E2 (instV L nb π nx fi τ p) x:=by
 intro p x h hv
 have hc:∀ {j k v},j<nk→CR Ec.fz k v (Cl.hd ((X.var L j k).den Ec))→CR E2.fz k v (Cl.hd ((X.app L (Nat.add fi j) τ k).den E2)):=fun {j k v} hj hcr=>by
  obtain⟨pp,hp1,hp2⟩:=hp
  rw[(hden j k hj).2]
  have:(X.var L j k).den Ec=[vl j]:=by simp only[X.den,hp1,hp2]
  rw[this] at hcr
  exact hcr.mono hfz
 cases p with
 |junk=>exact .junk x
 |x t=>
  cases t<;>first|(simp[patB] at h;done)|skip
  rename_i l j k
  simp only[patB,Bool.and_eq_true] at h
  have e:=Nat.eq_of_beq_eq_true h.1
  have hj:=Nat.le_of_ble_eq_true h.2
  subst e
  cases hv with
  |x _ _ h1 h2=>exact .x _ _ (hden j k hj).1 (hc hj h2)
 |lst l t=>
  cases t<;>first|(simp[patB] at h;done)|skip
  rename_i l2 j k
  simp only[patB,Bool.and_eq_true] at h
  obtain⟨⟨⟨h1,h2⟩,h3⟩,h4⟩:=h
  have e:=Nat.eq_of_beq_eq_true h3
  have hj:=Nat.le_of_ble_eq_true h4
  subst e
  cases hv with
  |lst _ q _ e off len cap hq hok hkd hcr hb hcp=>
   obtain⟨q',g1,g2,g3,g4⟩:=hpl l (Nat.le_of_ble_eq_true h1) h2 q hq
   rw[← g2]
   have hkd':k=.sl e:=hkd
   subst hkd'
   exact .lst _ q' _ e off len cap g1 (hden j _ hj).1 rfl (by rw[g2];exact hc hj hcr) (by rw[g3];exact hb) (by rw[g3,g4];exact hcp)
 |ptr l o=>
  simp only[patB] at h
  cases hv with
  |ptr _ off q hq=>
   cases hb:Nat.ble (Nat.succ L) l with
   |true=>
    rw[hb] at h
    obtain⟨q',g1,g2,g3,_⟩:=hpl l (Nat.le_of_ble_eq_true hb) h q hq
    rw[← g2,← g3]
    exact .ptr _ _ q' g1
   |false=>
    rw[hb] at h
    obtain⟨q',g1,g2,g3⟩:=hgl l (Nat.le_of_ble_eq_true h) q hq
    rw[← g2,← g3]
    have e:plR L nb π nx l=l:=by unfold plR;rw[hb];rfl
    show VR E2 (.ptr (plR L nb π nx l) o) _
    rw[e];exact .ptr _ _ q' g1
 |slice l o n c e=>
  simp only[patB,Bool.and_eq_true] at h
  cases hv with
  |slice _ off len cap esz q k hq a1 a2 a3=>
   obtain⟨q',g1,g2,g3,g4⟩:=hpl l (Nat.le_of_ble_eq_true h.1) h.2 q hq
   rw[← g2,← g3]
   exact .slice _ _ _ _ _ q' k g1 a1 (by omega) a3
 |agg cs=>cases hv with|agg _ xs h1=>exact .agg _ _ (instL_ok hp hfz hden hpl hgl (by simpa[patB] using h) h1)
 |tup cs=>cases hv with|tup _ xs h1=>exact .tup _ _ (instL_ok hp hfz hden hpl hgl (by simpa[patB] using h) h1)
 |iface t u=>cases hv with|iface _ _ x h1=>exact .iface _ _ _ (instV_ok hp hfz hden hpl hgl (by simpa[patB] using h) h1)
 |func fn a b=>
  cases fn with
  |func f=>
   simp only[patB,Bool.and_eq_true] at h
   cases hv with
   |func _ _ _ _ fs cs hf h1 h2=>exact .func _ _ _ _ _ _ hf (instL_ok hp hfz hden hpl hgl h.1 h1) (instL_ok hp hfz hden hpl hgl h.2 h2)
  |_=>simp[patB] at h
 |_=>
  have h1:=VR.ofFine (E':=E2) (by simpa[patB] using h) hv
  simpa[instV] using h1
theorem instL_ok (hp:∃ p,Ec L=some p∧p.ob.vl=vl)(hfz:∀ b o v,Ec.fz b o v→E2.fz b o v)(hden:∀ j k,j<nk→(X.app L (Nat.add fi j) τ k).ok E2∧Cl.hd ((X.app L (Nat.add fi j) τ k).den E2)=vl j)
  (hpl:∀ l,L<l→plOkB L zs l=true→∀ q,Ec l=some q→∃ q',E2 (plR L nb π nx l)=some q'∧q'.blk=q.blk∧q'.base=q.base∧q'.size=q.size)(hgl:∀ l,l<L→∀ q,Ec l=some q→∃ q',E2 l=some q'∧q'.blk=q.blk∧q'.base=q.base) :
  ∀ {ps:List V}{xs:List Value},patL L nk zs ps=true→VRs Ec ps xs→VRs E2 (instL L nb π nx fi τ ps) xs
 |[],_,_,h=>by cases h;exact .nil
 |p::ps,_,h,hv=>by
  simp only[patL,Bool.and_eq_true] at h
  cases hv with
  |cons _ x _ xs h1 h2=>exact .cons _ _ _ _ (instV_ok hp hfz hden hpl hgl h.1 h1) (instL_ok hp hfz hden hpl hgl h.2 h2)
end
theorem instL_get:∀ (l:List V)(i:Nat) v,l[i]? = some v→(instL L nb π nx fi τ l)[i]? = some (instV L nb π nx fi τ v)
 |[],i,v,h=>by simp at h
 |u::r,0,v,h=>by simp at h;subst h;rfl
 |u::r,i+1,v,h=>by simp only[instL,List.getElem?_cons_succ];exact instL_get r i v (by simpa using h)
theorem patL_get:∀ {l:List V},patL L nk zs l=true→∀ (i:Nat) v,l[i]? = some v→patB L nk zs v=true
 |[],_,i,v,h=>by simp at h
 |u::r,hp,i,v,h=>by
  simp only[patL,Bool.and_eq_true] at hp
  cases i with
  |zero=>simp at h;subst h;exact hp.1
  |succ i=>exact patL_get hp.2 i v (by simpa using h)
theorem instH_get:∀ (r:List Bz)(i0:Nat)(H:T AObj),(∀ i j zi zj,r[i]? = some zi→r[j]? = some zj→zi≠.same→zj≠.same→plR L nb π nx (L+1+(i0+i))=plR L nb π nx (L+1+(i0+j))→i=j)→
  (∀ i b,r[i]? = some (.set b)→getH (instH L nb π nx fi τ r i0 H) (plR L nb π nx (L+1+(i0+i)))=instO L nb π nx fi τ b)∧
  (∀ i,r[i]? = some .gone→getH (instH L nb π nx fi τ r i0 H) (plR L nb π nx (L+1+(i0+i)))=.no)∧
  ∀ l,(∀ i z,r[i]? = some z→z≠.same→plR L nb π nx (L+1+(i0+i))≠l)→getH (instH L nb π nx fi τ r i0 H) l=getH H l
 |[],i0,H,_=>⟨fun i b h=>by simp at h,fun i h=>by simp at h,fun l _=>rfl⟩
 |z::r,i0,H,hinj=>by
  have hinj':∀ i j zi zj,r[i]? = some zi→r[j]? = some zj→zi≠.same→zj≠.same→plR L nb π nx (L+1+(i0+1+i))=plR L nb π nx (L+1+(i0+1+j))→i=j:=fun i j zi zj a b c d e=>by
   have:=hinj (i+1) (j+1) zi zj (by simpa using a) (by simpa using b) c d (by rw[show i0+(i+1)=i0+1+i by omega,show i0+(j+1)=i0+1+j by omega];exact e)
   omega
  have key:∀ (H1:T AObj),(∀ i b,r[i]? = some (.set b)→getH (instH L nb π nx fi τ r (i0+1) H1) (plR L nb π nx (L+1+(i0+(i+1))))=instO L nb π nx fi τ b)∧
    (∀ i,r[i]? = some .gone→getH (instH L nb π nx fi τ r (i0+1) H1) (plR L nb π nx (L+1+(i0+(i+1))))=.no)∧
    ∀ l,(∀ i z,r[i]? = some z→z≠.same→plR L nb π nx (L+1+(i0+(i+1)))≠l)→getH (instH L nb π nx fi τ r (i0+1) H1) l=getH H1 l:=fun H1=>by
   obtain⟨a,b,c⟩:=instH_get r (i0+1) H1 hinj'
   have e:∀ i,i0+(i+1)=i0+1+i:=fun i=>by omega
   exact⟨fun i bb h=>by rw[e i];exact a i bb h,fun i h=>by rw[e i];exact b i h,fun l h=>c l fun i zz h1 h2=>by rw[← e i];exact h i zz h1 h2⟩
  have hz0:∀ (o:AObj),z≠.same→getH (instH L nb π nx fi τ r (i0+1) (put .no H (plR L nb π nx (L+1+i0)) o)) (plR L nb π nx (L+1+(i0+0)))=o:=fun o hz=>by
   show getH _ (plR L nb π nx (L+1+i0))=o
   rw[(key _).2.2 _ fun i zz h1 h2 h3=>?_]
   ·rw[getH_put,if_pos rfl]
   ·have:=hinj (i+1) 0 zz z (by simpa using h1) rfl h2 hz (by rw[Nat.add_zero];exact h3)
    omega
  cases z with
  |same=>
   obtain⟨a,b,c⟩:=key H
   refine⟨fun i bb h=>?_,fun i h=>?_,fun l h=>c l fun i zz h1 h2=>h (i+1) zz (by simpa using h1) h2⟩
   ·cases i with
    |zero=>simp at h
    |succ i=>exact a i bb (by simpa using h)
   ·cases i with
    |zero=>simp at h
    |succ i=>exact b i (by simpa using h)
  |set c=>
   obtain⟨a,b,d⟩:=key (put .no H (plR L nb π nx (L+1+i0)) (instO L nb π nx fi τ c))
   refine⟨fun i bb h=>?_,fun i h=>?_,fun l h=>?_⟩
   ·cases i with
    |zero=>simp at h;subst h;exact hz0 _ (fun e=>by cases e)
    |succ i=>exact a i bb (by simpa using h)
   ·cases i with
    |zero=>simp at h
    |succ i=>exact b i (by simpa using h)
   ·refine (d l fun i zz h1 h2=>h (i+1) zz (by simpa using h1) h2).trans ?_
    rw[getH_put,if_neg fun e=>h 0 _ rfl (fun e=>by cases e) (by rw[Nat.add_zero];exact e.symm)]
  |gone=>
   obtain⟨a,b,d⟩:=key (put .no H (plR L nb π nx (L+1+i0)) .no)
   refine⟨fun i bb h=>?_,fun i h=>?_,fun l h=>?_⟩
   ·cases i with
    |zero=>simp at h
    |succ i=>exact a i bb (by simpa using h)
   ·cases i with
    |zero=>exact hz0 _ (fun e=>by cases e)
    |succ i=>exact b i (by simpa using h)
   ·refine (d l fun i zz h1 h2=>h (i+1) zz (by simpa using h1) h2).trans ?_
    rw[getH_put,if_neg fun e=>h 0 _ rfl (fun e=>by cases e) (by rw[Nat.add_zero];exact e.symm)]
theorem instO_no (b:Bx):instO L nb π nx fi τ b≠.no∧clsOf (instO L nb π nx fi τ b)=0∧isRo (instO L nb π nx fi τ b)=b.ro:=by
 cases b with
 |cells _ _ _ _=>exact⟨(fun h=>by cases h),rfl,rfl⟩
 |own _=>exact⟨(fun h=>by cases h),rfl,rfl⟩
end
section
variable [Sx] [Dc] [Tb]{E:Env}{L j:Nat}{k:Kd}{π:List Nat}{σ:List X}
mutual
theorem hasM_ok:∀ {p v:V}{x:Value},p.has L j k=true→matchV L π σ p v=true→VR E v x→∃ t,σ[j]? = some t∧t.ok E:=by
 intro p v x h hm hv
 cases p with
 |x t=>
  simp only[V.has] at h
  cases t<;>simp only[X.isVar] at h<;>first|(cases h;done)|skip
  rename_i l i k'
  simp only[Bool.and_eq_true] at h
  have e:=Nat.eq_of_beq_eq_true h.1.2
  subst e
  simp only[matchV,Bool.and_eq_true] at hm
  cases hs:σ[i]? with
  |none=>rw[hs] at hm;cases hm.2
  |some t=>
   rw[hs] at hm
   cases hx:toXk k' v with
   |none=>rw[hx] at hm;cases hm.2
   |some u=>
    rw[hx] at hm
    have e:=X.beq_eq hm.2
    subst e
    exact⟨u,rfl,(toXk_ok hv hx).1⟩
 |lst l t=>
  simp only[V.has] at h
  cases t<;>simp only[X.isVar] at h<;>first|(cases h;done)|skip
  rename_i l2 i k'
  simp only[Bool.and_eq_true] at h
  have e:=Nat.eq_of_beq_eq_true h.1.2
  subst e
  cases v<;>first|(simp[matchV,V.fine] at hm;done)|skip
  rename_i l' t
  simp only[matchV,Bool.and_eq_true] at hm
  cases hs:σ[i]? with
  |none=>rw[hs] at hm;cases hm.2
  |some u=>
   rw[hs] at hm
   have e:=X.beq_eq hm.2
   subst e
   cases hv with
   |lst _ q _ e off len cap hq hok _ _ _ _=>exact⟨t,rfl,hok⟩
 |agg a=>
  cases v<;>first|(simp[matchV,V.fine] at hm;done)|skip
  ·simp only[matchV,V.fine,V.eqB,Bool.and_eq_true] at hm;cases hm.2
  all_goals first|(simp only[matchV,V.fine,V.eqB,Bool.and_eq_true] at hm;cases hm.2;done)|skip
  rename_i b
  simp only[matchV] at hm
  cases hv with|agg _ xs hx=>exact hasML_ok (by simpa[V.has] using h) hm hx
 |tup a=>
  cases v<;>first|(simp only[matchV,V.fine,V.eqB,Bool.and_eq_true] at hm;cases hm.2;done)|skip
  rename_i b
  simp only[matchV] at hm
  cases hv with|tup _ xs hx=>exact hasML_ok (by simpa[V.has] using h) hm hx
 |iface t u=>
  cases v<;>first|(simp only[matchV,V.fine,V.eqB,Bool.and_eq_true] at hm;cases hm.2;done)|skip
  rename_i t' u'
  simp only[matchV,Bool.and_eq_true] at hm
  cases hv with|iface _ _ x hx=>exact hasM_ok (by simpa[V.has] using h) hm.2 hx
 |func fn a b=>
  cases fn with
  |func f=>
   cases v<;>first|(simp only[matchV,V.fine,V.eqB,Bool.and_eq_true] at hm;cases hm.2;done)|skip
   rename_i fn' a' b'
   cases fn'<;>first|(simp[matchV,V.fine,V.eqB] at hm;done)|skip
   simp only[matchV,Bool.and_eq_true] at hm
   simp only[V.has,Bool.or_eq_true] at h
   cases hv with
   |func _ _ _ _ fs cs hf a1 a2=>
    rcases h with h|h
    ·exact hasML_ok h hm.1.2 a1
    ·exact hasML_ok h hm.2 a2
  |_=>cases v<;>simp[matchV,V.fine] at hm
 |_=>simp[V.has] at h
theorem hasML_ok:∀ {ps vs:List V}{xs:List Value},V.hasL L j k ps=true→matchL L π σ ps vs=true→VRs E vs xs→∃ t,σ[j]? = some t∧t.ok E
 |[],_,_,h,_,_=>by simp[V.hasL] at h
 |_::_,[],_,_,hm,_=>by simp[matchL] at hm
 |p::ps,v::vs,_,h,hm,hv=>by
  simp only[matchL,Bool.and_eq_true] at hm
  simp only[V.hasL,Bool.or_eq_true] at h
  cases hv with
  |cons _ x _ xs h1 h2=>
   rcases h with h|h
   ·exact hasM_ok h hm.1 h1
   ·exact hasML_ok h hm.2 h2
end
end
section
variable [Sx] [Dc] [Tb]{P:Program}{k:Nat}{G:World→Prop}
theorem ctr_hook {B:Bs}{E:Env}{H:T AObj}{nx:Nat}{w:World}(hG:Gd0 k G)(hk0:0<k)(hsz:P.globals.size≤k)(hgb:GB k G B){L:Nat}(hL:P.globals.size=L){fn:Nat→List Cl→Cl}(htb:Tb.tab=some (L,fn))
  {K:Ctr}{tb:Nat→List Cl→Cl}{Pre:List Cl→Prop}{F:List Cl→List Cl}(hS:K.Sound P k G tb Pre F)(hwf:K.wf L=true){fi:Nat}(hfn:∀ cls (j:Nat) c,(F cls)[j]? = some c→fn (fi+j) cls=c)
  (h:WR B E H nx w)(hgl:∀ g,g<P.globals.size→∃ s,E g=some ⟨g,0,s,undef,noOb,[]⟩){args:List V}{xs:List Value}(hxs:VRs E args xs){π:List Nat}{σ:List X}
  (hm:matchL L π σ K.args args=true)(hb:boxesOk L 0 K.bs K.ks π σ H (V.plsL args)=true)(hpre:Pre (σ.map (X.c E))) :
  Calls P K.f xs.toArray w (HookPost B E H nx (instV L K.box.length π nx fi (X.ofL σ) K.res) (instH L K.box.length π nx fi (X.ofL σ) K.box' 0 H) (Nat.add (Nat.succ nx) (Nat.sub K.box'.length K.box.length))):=by
 subst hL
 simp only[Ctr.wf,Bool.and_eq_true] at hwf
 obtain⟨⟨hz,hpres⟩,hkin⟩:=hwf
 obtain⟨hzl,hzg⟩:=wfZ_ok hz
 have hbs:∀ (i:Nat) b,K.bs[i]? = some (some b)↔K.box[i]? = some b:=fun i b=>by
  unfold Ctr.bs;rw[List.getElem?_map];cases K.box[i]?<;>simp
 have hbs':∀ (i:Nat) b,K.bs'[i]? = some (some b)↔K.box'[i]? = some (.set b):=fun i b=>by
  unfold Ctr.bs';rw[List.getElem?_map]
  cases hz:K.box'[i]? with
  |none=>simp
  |some z=>cases z<;>simp[Bz.bx]
 have hgw:=hgb.at hG h
 have hkw:=hG.size w hgw
 have hb8:=hb
 unfold boxesOk at hb8
 simp only[Bool.and_eq_true] at hb8
 obtain⟨⟨⟨⟨c1,c2⟩,c3⟩,_⟩,c5⟩:=hb8
 obtain⟨hπl,hbg⟩:=matchBs_get c1
 have hnbl:K.bs.length=K.box.length:=by unfold Ctr.bs;rw[List.length_map]
 have hnbl':K.bs'.length=K.box'.length:=by unfold Ctr.bs';rw[List.length_map]
 have hkn:∀ l∈V.plsL args,∃ p,E l=some p:=hxs.at
 have hat:=reachB_ok (heap:=fun b=>w.heap[b]?) h.objs hkn c1 c3
 have hbox:∀ (i:Nat) b,K.box[i]? = some b→∃ l q,π[i]? = some l∧E l=some q∧getH H l≠.no∧clsOf (getH H l)=0∧(isRo (getH H l)=true→b.ro=true)∧l<nx∧matchB P.globals.size π σ b (getH H l)=true:=fun i b hi=>by
  obtain⟨l,q,h1,h2⟩:=hat i b ((hbs i b).2 hi)
  obtain⟨l',h3,h4⟩:=hbg i b ((hbs i b).2 hi)
  rw[h1] at h3;cases h3
  obtain⟨a1,a2,a3,_⟩:=matchB_no h4
  exact⟨l,q,h1,h2,a1,a2,a3,Nat.lt_of_not_le (fun hh=>by rw[(h.fresh l hh).1] at h2;cases h2),h4⟩
 have hσ:∀ t∈σ,t.ok E:=fun t ht=>by
  obtain⟨j,hj⟩:=List.getElem?_of_mem ht
  have hjl:j<K.ks.length:=by
   have h1:=(List.getElem?_eq_some_iff.1 hj).1
   have h2:=Nat.eq_of_beq_eq_true c5
   omega
  have gen:∀ (ks:List Kd)(a:Nat),ksIn P.globals.size K.args K.bs ks a=true→∀ i k',ks[i]? = some k'→V.hasL P.globals.size (a+i) k' K.args=true∨boxHas P.globals.size (a+i) k' K.bs=true:=by
   intro ks
   induction ks with
   |nil=>intro a _ i k' hi;simp at hi
   |cons kk r ih=>
    intro a hh i k' hi
    simp only[ksIn,Bool.and_eq_true,Bool.or_eq_true] at hh
    cases i with
    |zero=>simp at hi;subst hi;exact hh.1
    |succ i=>
     have:=ih (a+1) hh.2 i k' (by simpa using hi)
     rwa [show a+1+i=a+(i+1) by omega] at this
  have hg:=gen K.ks 0 hkin j _ (List.getElem?_eq_getElem hjl)
  rw[Nat.zero_add] at hg
  have key:∃ u,σ[j]? = some u∧u.ok E:=by
   rcases hg with hg|hg
   ·exact hasML_ok hg hm hxs
   ·obtain⟨b,hbm,hh⟩:=boxHas_mem hg
    obtain⟨i,hi⟩:=List.getElem?_of_mem hbm
    obtain⟨l,q,h1,h2,_,_,_,_,h7⟩:=hbox i b ((hbs i b).1 hi)
    cases b with
    |own e=>simp[Bx.vs,V.hasL] at hh
    |cells el cs f r=>
     obtain⟨vs,ro,heq,_,k7⟩:=matchB_cells h7
     have ho:=h.objs l q h2
     rw[heq] at ho
     obtain⟨cc,fr,m1,m2,m3,m4,m5⟩:=ho
     have hv:∃ ys,VRs E (vs.range .bad cs.length 0) ys:=by
      have:∀ n i0,i0+n≤cs.length→∃ ys,VRs E (vs.range .bad n i0) ys:=by
       intro n
       induction n with
       |zero=>intro i0 _;exact⟨[],.nil⟩
       |succ n ih=>
        intro i0 hn
        obtain⟨ys,hys⟩:=ih (i0+1) (by omega)
        obtain⟨y,_,hy⟩:=m5 i0 (by omega) (.inl rfl)
        exact⟨y::ys,.cons _ _ _ _ hy hys⟩
      exact this cs.length 0 (by omega)
     obtain⟨ys,hys⟩:=hv
     exact hasML_ok hh k7 hys
  obtain⟨u,hu1,hu2⟩:=key
  rw[hj] at hu1;cases hu1;exact hu2
 let old:Nat→Prop:=fun b=>b<w.heap.size∧∀ (i:Nat) b' l q,K.box[i]? = some b'→b'.ro=false→π[i]? = some l→E l=some q→q.blk≠b
 have hold:∀ b,old b→b<w.heap.size:=fun b hb=>hb.1
 have hmut:∀ (i:Nat) b l q,K.box[i]? = some b→b.ro=false→π[i]? = some l→E l=some q→¬ B.old q.blk:=fun i b l q h1 h2 h3 h4=>by
  obtain⟨l',q',g1,g2,g3,g4,g5,_⟩:=hbox i b h1
  rw[h3] at g1;cases g1
  rw[h4] at g2;cases g2
  rcases (h.own l q h4).2 with g|g|g
  ·exact absurd g g3
  ·have:=g5 g;rw[h2] at this;cases this
  ·exact g
 have holdB:∀ b,B.old b→old b:=fun b hb=>⟨h.lt_old hb,fun i b' l q h1 h2 h3 h4 e=>hmut i b' l q h1 h2 h3 h4 (e ▸ hb)⟩
 have hcan:=canon_ok (tb:=tb) h hgl (by omega) (by omega) hkn hb hσ old hold fun i b l q h1 h2 h3 h4 ho=>ho.2 i b l q ((hbs i b).1 h1) h2 h3 h4 rfl
 have hargs:=hcan.vrs _ _ _ hm hxs
 have hwts:=hcan.kinds _ _ hargs hkin
 refine (hS w old hold (fzF E.fz) (π.map (plOf E)) (σ.map (X.c E)) xs hgw (fun i hi=>holdB i (hgb.1 i hi)) (fun p hp=>by obtain⟨l,_,rfl⟩:=List.mem_map.1 hp;exact plOf_ob) (by rw[List.length_map,← hπl,hnbl]) hcan.wr hargs hwts hpre).mono ?_
 rintro e w' ⟨x,φ',pls',hlt',he,hno',h01,h10,hext,hwr',hres,hwt',hln',hkp'⟩
 obtain⟨cobjs,csep,cown,cdat⟩:=WR.parts0 hwr'
 have hφE:∀ b o v,E.fz b o v→φ' b o=some v:=fun b o v hv=>h01 b o v ((hcan.fz b o v).2 hv)
 have hφo:∀ b o v,φ' b o=some v→old b→E.fz b o v:=fun b o v hv hb=>(hcan.fz b o v).1 (h10 b o v hv hb)
 generalize hcls:σ.map (X.c E)=cls at *
 generalize hr:F cls=r at *
 generalize hEc:cutEnv P (ghOf φ' r tb) pls'=Ec at *
 have hEcL:Ec P.globals.size=some ⟨0,0,0,undef,ghOf φ' r tb,[]⟩:=by rw[← hEc];exact cutEnv_at
 let E2:Env:=fun l=>if l=nx then some ⟨0,0,0,undef,{ noOb with fz:=φ' },[]⟩ else if nx<l∧l≤nx+(K.box'.length-K.box.length) then pls'[K.box.length+(l-nx-1)]? else E l
 have hE2lo:∀ l,l<nx→E2 l=E l:=fun l hl=>by simp only[E2];rw[if_neg (by omega),if_neg (by omega)]
 have hE2nx:E2 nx=some ⟨0,0,0,undef,{ noOb with fz:=φ' },[]⟩:=by simp only[E2,if_true]
 have hE2hi:∀ i,K.box.length≤i→i<K.box'.length→E2 (nx+1+(i-K.box.length))=pls'[i]? := fun i h1 h2=>by
  simp only[E2];rw[if_neg (by omega),if_pos (by omega)];congr 1;omega
 have hEn:∀ l,nx≤l→E l=none:=fun l hl=>(h.fresh l hl).1
 have hlt:∀ l p,E l=some p→l<nx:=fun l p hl=>Nat.lt_of_not_le fun hh=>by rw[hEn l hh] at hl;cases hl
 have hle:E.le E2:=fun l p hl=>by rw[hE2lo l (hlt l p hl)];exact hl
 have hE2inv:∀ l p,E2 l=some p→(l=nx∧p=⟨0,0,0,undef,{ noOb with fz:=φ' },[]⟩)∨(∃ i,K.box.length≤i∧i<K.box'.length∧l=nx+1+(i-K.box.length)∧pls'[i]? = some p)∨E l=some p:=fun l p hl=>by
  simp only[E2] at hl
  split at hl
  ·cases hl;exact .inl ⟨by assumption,rfl⟩
  ·split at hl
   ·rename_i h1 h2
    exact .inr (.inl ⟨K.box.length+(l-nx-1),by omega,by omega,by omega,hl⟩)
   ·exact .inr (.inr hl)
 have hE2none:∀ l,nx+1+(K.box'.length-K.box.length)≤l→E2 l=none:=fun l hl=>by
  simp only[E2];rw[if_neg (by omega),if_neg (by omega)];exact hEn l (by omega)
 have hE2fz:∀ b o v,E2.fz b o v→φ' b o=some v:=fun b o v ⟨l,p,hl,hv⟩=>by
  rcases hE2inv l p hl with⟨_,rfl⟩|⟨i,_,_,_,hi⟩|hl
  ·exact hv
  ·rw[hno' p (List.mem_of_getElem? hi)] at hv;cases hv
  ·exact hφE b o v ⟨l,p,hl,hv⟩
 have hfz2:∀ b o v,φ' b o=some v→E2.fz b o v:=fun b o v hv=>⟨nx,_,hE2nx,hv⟩
 have hp1:∀ i l,i<K.box.length→π[i]? = some l→plR P.globals.size K.box.length π nx (P.globals.size+1+i)=l:=fun i l hi hl=>by
  unfold plR
  have e1:Nat.ble (Nat.succ P.globals.size) (P.globals.size+1+i)=true:=Nat.ble_eq_true_of_le (by omega)
  have e2:Nat.sub (P.globals.size+1+i) (Nat.succ P.globals.size)=i:=by show P.globals.size+1+i-(P.globals.size+1)=i;omega
  have e3:Nat.ble (Nat.succ i) K.box.length=true:=Nat.ble_eq_true_of_le (by omega)
  rw[e1,e2,e3]
  simp[List.getD,hl]
 have hp2:∀ i,K.box.length≤i→plR P.globals.size K.box.length π nx (P.globals.size+1+i)=nx+1+(i-K.box.length):=fun i hi=>by
  unfold plR
  have e1:Nat.ble (Nat.succ P.globals.size) (P.globals.size+1+i)=true:=Nat.ble_eq_true_of_le (by omega)
  have e2:Nat.sub (P.globals.size+1+i) (Nat.succ P.globals.size)=i:=by show P.globals.size+1+i-(P.globals.size+1)=i;omega
  have e3:Nat.ble (Nat.succ i) K.box.length=false:=by
   cases hq:Nat.ble (Nat.succ i) K.box.length with
   |false=>rfl
   |true=>have:=Nat.le_of_ble_eq_true hq;omega
  rw[e1,e2,e3];rfl
 have hin:∀ i z,K.box'[i]? = some z→i<K.box.length→∃ b l q,K.box[i]? = some b∧π[i]? = some l∧E l=some q∧plR P.globals.size K.box.length π nx (P.globals.size+1+(0+i))=l∧l<nx∧getH H l≠.no∧clsOf (getH H l)=0∧(isRo (getH H l)=true→b.ro=true):=fun i z hz hi=>by
  obtain⟨l,q,g1,g2,g3,g4,g5,g6,_⟩:=hbox i _ (List.getElem?_eq_getElem hi)
  exact⟨_,l,q,List.getElem?_eq_getElem hi,g1,g2,by rw[Nat.zero_add];exact hp1 i l hi g1,g6,g3,g4,g5⟩
 have hinj:∀ i j zi zj,K.box'[i]? = some zi→K.box'[j]? = some zj→zi≠.same→zj≠.same→plR P.globals.size K.box.length π nx (P.globals.size+1+(0+i))=plR P.globals.size K.box.length π nx (P.globals.size+1+(0+j))→i=j:=fun i j zi zj h1 h2 _ _ heq=>by
  by_cases hi:i<K.box.length
  ·obtain⟨b,l,q,a1,a2,a3,a4,a5,_⟩:=hin i zi h1 hi
   by_cases hj:j<K.box.length
   ·obtain⟨b',l',q',b1,b2,b3,b4,b5,_⟩:=hin j zj h2 hj
    rw[a4,b4] at heq;subst heq
    exact liveP_inj c2 i j _ _ l ((hbs i b).2 a1) ((hbs j b').2 b1) a2 b2
   ·rw[a4,Nat.zero_add,hp2 j (by omega)] at heq;omega
  ·by_cases hj:j<K.box.length
   ·obtain⟨b',l',q',b1,b2,b3,b4,b5,_⟩:=hin j zj h2 hj
    rw[b4,Nat.zero_add,hp2 i (by omega)] at heq;omega
   ·rw[Nat.zero_add,Nat.zero_add,hp2 i (by omega),hp2 j (by omega)] at heq;omega
 obtain⟨hH1,hH2,hH3⟩:=instH_get (fi:=fi) (τ:=X.ofL σ) K.box' 0 H hinj
 generalize hHH:instH P.globals.size K.box.length π nx fi (X.ofL σ) K.box' 0 H=H2 at *
 have hset:∀ i c,K.box'[i]? = some (.set c)→c.ro=false∧patL P.globals.size K.ks'.length K.box' c.vs=true∧∃ p q',Ec (P.globals.size+1+i)=some p∧E2 (plR P.globals.size K.box.length π nx (P.globals.size+1+i))=some q'∧q'.blk=p.blk∧q'.base=p.base∧q'.size=p.size∧
   getH (heapB P.globals.size K.bs') (P.globals.size+1+i)=c.obj∧getH H2 (plR P.globals.size K.box.length π nx (P.globals.size+1+i))=instO P.globals.size K.box.length π nx fi (X.ofL σ) c:=fun i c hc=>by
  have hil:i<K.box'.length:=(List.getElem?_eq_some_iff.1 hc).1
  have hg:=hzg i _ hc
  have hpi:pls'[i]? = some pls'[i]:=List.getElem?_eq_getElem (by omega)
  have hob:getH (heapB P.globals.size K.bs') (P.globals.size+1+i)=c.obj:=by rw[getH_box,(hbs' i c).2 hc];rfl
  have hEci:Ec (P.globals.size+1+i)=some pls'[i]:=by rw[← hEc,cutEnv_box];exact hpi
  have hgo:=hH1 i c hc
  rw[Nat.zero_add] at hgo
  by_cases hi:i<K.box.length
  ·obtain⟨b,l,q,a1,a2,a3,a4,a5,_⟩:=hin i _ hc hi
   rw[Nat.zero_add] at a4
   have hrp:=hg.1 b a1
   rcases hrp with⟨_,hh⟩|⟨_,⟨c',hh,h2,h3⟩|hh⟩
   ·cases hh
   ·cases hh
    have hk:=hkp' i c hi ((hbs' i c).2 hc)
    rw[hpi,List.getElem?_map,a2] at hk
    simp only[Option.map_some,Option.some.injEq,plOf_some a3] at hk
    refine⟨h2,h3,pls'[i],q,hEci,by rw[a4,hE2lo l a5];exact a3,by rw[hk],by rw[hk],by rw[hk],hob,hgo⟩
   ·cases hh
  ·obtain⟨c',hh,h2,h3⟩:=hg.2 (List.getElem?_eq_none (by omega))
   cases hh
   exact⟨h2,h3,pls'[i],pls'[i],hEci,by rw[hp2 i (by omega),hE2hi i (by omega) hil];exact hpi,rfl,rfl,rfl,hob,hgo⟩
 have hcase:∀ l p,E2 l=some p→getH H2 l=.no∨(∃ i c p',K.box'[i]? = some (.set c)∧l=plR P.globals.size K.box.length π nx (P.globals.size+1+i)∧Ec (P.globals.size+1+i)=some p'∧p.blk=p'.blk∧p.base=p'.base∧p.size=p'.size∧
   getH (heapB P.globals.size K.bs') (P.globals.size+1+i)=c.obj∧getH H2 l=instO P.globals.size K.box.length π nx fi (X.ofL σ) c∧c.ro=false∧patL P.globals.size K.ks'.length K.box' c.vs=true)∨(E l=some p∧getH H2 l=getH H l∧old p.blk):=fun l p hl=>by
  by_cases hex:∃ i z,K.box'[i]? = some z∧z≠.same∧plR P.globals.size K.box.length π nx (P.globals.size+1+(0+i))=l
  ·obtain⟨i,z,hz1,hz2,hz3⟩:=hex
   cases z with
   |same=>exact absurd rfl hz2
   |gone=>exact .inl (by rw[← hz3];exact hH2 i hz1)
   |set c=>
    obtain⟨s1,s2,p',q',s3,s4,s5,s6,s7,s8,s9⟩:=hset i c hz1
    rw[Nat.zero_add] at hz3
    rw[hz3] at s4 s9
    rw[hl] at s4;cases s4
    exact .inr (.inl ⟨i,c,p',hz1,hz3.symm,s3,s5,s6,s7,s8,s9,s1,s2⟩)
  ·have hne:∀ i z,K.box'[i]? = some z→z≠.same→plR P.globals.size K.box.length π nx (P.globals.size+1+(0+i))≠l:=fun i z h1 h2 h3=>hex ⟨i,z,h1,h2,h3⟩
   have hg:=hH3 l hne
   rcases hE2inv l p hl with⟨rfl,_⟩|⟨i,a1,a2,rfl,a4⟩|hEl
   ·exact .inl (by rw[hg];exact (h.fresh _ (Nat.le_refl _)).2)
   ·exfalso
    obtain⟨c',hh,_,_⟩:=(hzg i _ (List.getElem?_eq_getElem a2)).2 (List.getElem?_eq_none (by omega))
    exact hne i _ (List.getElem?_eq_getElem a2) (by rw[hh];intro e;cases e) (by rw[Nat.zero_add];exact hp2 i a1)
   ·by_cases hn:getH H l=.no
    ·exact .inl (hg.trans hn)
    ·refine .inr (.inr ⟨hEl,hg,(h.own l p hEl).1,fun i b' l' q h1 h2 h3 h4 hblk=>?_⟩)
     have hi:i<K.box.length:=(List.getElem?_eq_some_iff.1 h1).1
     obtain⟨l'',q'',g1,g2,g3,g4,g5,g6,_⟩:=hbox i b' h1
     rw[h3] at g1;cases g1
     have hll:l≠l':=fun e=>by
      subst e
      have hz:=hzg i _ (List.getElem?_eq_getElem (show i<K.box'.length by omega))
      rcases hz.1 b' h1 with⟨hh,_⟩|⟨_,hh⟩
      ·rw[h2] at hh;cases hh
      ·refine hne i _ (List.getElem?_eq_getElem (show i<K.box'.length by omega)) (fun e=>?_) (by rw[Nat.zero_add];exact hp1 i l hi h3)
       rcases hh with⟨c,hh,_⟩|hh
       ·rw[e] at hh;cases hh
       ·rw[e] at hh;cases hh
     rcases h.sep l l' p q hll hEl h4 hblk.symm with (g|g|g)|g
     ·exact hn g
     ·exact g3 g
     ·rw[← g.2.1] at g4;exact g.1 g4
     ·have:=g5 g.2;rw[h2] at this;cases this
 have hnoM:∀ i c p',K.box'[i]? = some (.set c)→Ec (P.globals.size+1+i)=some p'→getH (heapB P.globals.size K.bs') (P.globals.size+1+i)=c.obj→c.ro=false→¬ old p'.blk:=fun i c p' h1 h2 h3 h4=>by
  rcases (cown _ p' h2).2 with g|g|g
  ·rw[h3] at g;exact absurd g c.obj_cls.2.2.1
  ·rw[h3,c.obj_cls.2.1,h4] at g;cases g
  ·exact g
 obtain⟨pt,hpt,hptf⟩:=hgb.2.2.mono h.le _ fn htb
 have hokT:(X.ofL σ).ok E:=X.ok_ofL.2 hσ
 have hvpl:∀ l,P.globals.size<l→plOkB P.globals.size K.box' l=true→∀ q,Ec l=some q→∃ q',E2 (plR P.globals.size K.box.length π nx l)=some q'∧q'.blk=q.blk∧q'.base=q.base∧q'.size=q.size:=fun l hl ho q hq=>by
  have e:P.globals.size+1+(l-(P.globals.size+1))=l:=by omega
  unfold plOkB at ho
  have e2:Nat.sub l (Nat.succ P.globals.size)=l-(P.globals.size+1):=rfl
  rw[e2] at ho
  cases hz:K.box'[l-(P.globals.size+1)]? with
  |none=>rw[hz] at ho;cases ho
  |some z=>
   rw[hz] at ho
   obtain⟨c,rfl⟩:=isSetZ_some ho
   obtain⟨_,_,p,q',s3,s4,s5,s6,s7,_⟩:=hset _ c hz
   rw[e] at s3 s4
   rw[hq] at s3;cases s3
   exact⟨q',s4,s5,s6,s7⟩
 have hvgl:∀ l,l<P.globals.size→∀ q,Ec l=some q→∃ q',E2 l=some q'∧q'.blk=q.blk∧q'.base=q.base:=fun l hl q hq=>by
  rw[← hEc,cutEnv_gl' hl] at hq;cases hq
  obtain⟨s,hs⟩:=hgl l hl
  exact⟨_,hle _ _ hs,rfl,rfl⟩
 have hrl:r.length=K.ks'.length:=hwt'.length.symm
 have hden:∀ j k,j<K.ks'.length→(X.app P.globals.size (Nat.add fi j) (X.ofL σ) k).ok E2∧Cl.hd ((X.app P.globals.size (Nat.add fi j) (X.ofL σ) k).den E2)=(fun i=>r.getD i .no) j:=fun j k hj=>by
  refine⟨⟨⟨pt,hle _ _ hpt⟩,X.ok_mono hle hokT⟩,?_⟩
  have hd:(X.ofL σ).den E2=cls:=by rw[X.den_mono hle hokT,X.den_ofL,hcls]
  simp only[X.den,hle _ _ hpt,hptf,hd,Cl.hd]
  have hj':r[j]? = some r[j]:=List.getElem?_eq_getElem (by omega)
  have:=hfn cls j r[j] (by rw[hr];exact hj')
  show fn (fi+j) cls=_
  rw[this];simp[List.getD,hj']
 have hVR:∀ {p:V}{x:Value},patB P.globals.size K.ks'.length K.box' p=true→VR Ec p x→VR E2 (instV P.globals.size K.box.length π nx fi (X.ofL σ) p) x:=
  instV_ok ⟨_,hEcL,rfl⟩ (fun b o v hv=>hfz2 b o v (by rw[← hEc,cutEnv_fz hno'] at hv;exact hv)) hden hvpl hvgl
 refine .ret ⟨x,E2,he,hle,hVR hpres hres,?wr,by show nx≤nx+1+_;omega,fun l hl hEl hc=>⟨by rw[hE2lo l hl];exact hEl,hH3 l fun i z h1 h2 h3=>?keep⟩⟩
 case keep=>
  by_cases hi:i<K.box.length
  ·obtain⟨b,l',q,a1,a2,a3,a4,a5,_⟩:=hin i z h1 hi
   rw[a4] at h3;subst h3;rw[a3] at hEl;cases hEl
  ·rw[Nat.zero_add,hp2 i (by omega)] at h3;omega
 case wr=>
  have hokc:∀ l,clsOf (getH H l)≠0→getH H2 (clsOf (getH H l))=getH H (clsOf (getH H l))∧E2 (clsOf (getH H l))=none∧clsOf (getH H l)<nx:=fun l hl=>by
   obtain⟨cur,lim,mk,g1,g2,g3⟩:=h.cls l hl
   have hlt:clsOf (getH H l)<nx:=Nat.lt_of_not_le fun hh=>by rw[(h.fresh _ hh).2] at g1;cases g1
   refine⟨hH3 _ fun i z h1 h2 h3=>?_,by rw[hE2lo _ hlt];exact g3,hlt⟩
   by_cases hi:i<K.box.length
   ·obtain⟨b,l',q,a1,a2,a3,a4,a5,_⟩:=hin i z h1 hi
    rw[a4] at h3;rw[h3] at a3;rw[g3] at a3;cases a3
   ·rw[Nat.zero_add,hp2 i (by omega)] at h3;omega
  have hcells:∀ b o v,φ' b o=some v→w'.cell? ⟨b,o,none⟩=some v∧∀ l' p',Ec l'=some p'→p'.blk=b→mayFz (getH (heapB P.globals.size K.bs') l') p' o:=fun b o v hv=>cdat _ _ hEcL b o v hv
  refine⟨fun l p hl=>?objs,fun l hl=>⟨hE2none l hl,?fresh⟩,fun l l' p p' hne hl hl' hblk=>?sep,fun l hc0=>?cls,fun l p hl=>?own,fun b hb=>(hext.old b (holdB b hb)).trans (h.old b hb),Nat.le_trans h.size hext.size,hext.os.trans h.os,hext.output.trans h.output,hext.tape.trans h.tape,h.le.trans hle,fun l p hl b o v hf=>?dat,h.dec,fun l p hl b o v hf hbo=>?fzo⟩
  case objs=>
   rcases hcase l p hl with hn|⟨i,c,p',s1,s2,s3,s4,s5,s6,s7,s8,s9,s10⟩|⟨s1,s2,s3⟩
   ·rw[hn];trivial
   ·have ho:=cobjs _ p' s3
    rw[s7] at ho
    rw[s8,s4]
    cases c with
    |own e=>obtain⟨cc,g1,g2⟩:=ho;exact⟨cc,g1,by rw[s5,s6];exact g2⟩
    |cells el cs f ro=>
     obtain⟨cc,fr,g1,g2,g3,g4,g5⟩:=ho
     refine⟨cc,fr,g1,by rw[s5,s6];exact g2,by rw[s6];exact g3,by rw[s5];exact g4,fun j hj _=>?_⟩
     obtain⟨y,hy,hv⟩:=g5 j hj (.inl rfl)
     refine⟨y,by rw[s5];exact hy,?_⟩
     have h2:cs[j]? = some cs[j]:=List.getElem?_eq_getElem hj
     have h3:getC (T.ofK .bad cs 0 .e id) j=cs[j]:=by
      rw[ofK_eq,getC_eq]
      show (putL V.bad _ 0 .e).get V.bad j=_
      rw[get_putL];simp[h2]
     have h4:getC (T.ofK .bad (instL P.globals.size K.box.length π nx fi (X.ofL σ) cs) 0 .e id) j=instV P.globals.size K.box.length π nx fi (X.ofL σ) cs[j]:=by
      rw[ofK_eq,getC_eq]
      show (putL V.bad _ 0 .e).get V.bad j=_
      rw[get_putL];simp[instL_get _ _ _ h2]
     rw[h4]
     rw[h3] at hv
     exact hVR (patL_get s10 j _ h2) hv
   ·rw[s2,hext.old _ s3]
    exact (h.objs l p s1).trans hle fun pos ho=>ho.same fun hc0=>(hokc l hc0).1
  case fresh=>
   have hl':nx+1+(K.box'.length-K.box.length)≤l:=hl
   rw[hH3 l fun i z h1 h2 h3=>?_]
   ·exact (h.fresh l (by omega)).2
   ·have hil:i<K.box'.length:=(List.getElem?_eq_some_iff.1 h1).1
    by_cases hi:i<K.box.length
    ·obtain⟨b,l2,q,a1,a2,a3,a4,a5,_⟩:=hin i z h1 hi
     rw[a4] at h3;omega
    ·rw[Nat.zero_add,hp2 i (by omega)] at h3;omega
  case sep=>
   rcases hcase l p hl with hn|⟨i,c,q,s1,s2,s3,s4,s5,s6,s7,s8,s9,s10⟩|⟨s1,s2,s3⟩
   ·exact .inl (.inl hn)
   ·rcases hcase l' p' hl' with hn'|⟨i',c',q',t1,t2,t3,t4,t5,t6,t7,t8,t9,t10⟩|⟨t1,t2,t3⟩
    ·exact .inl (.inr (.inl hn'))
    ·exfalso
     have hii:P.globals.size+1+i≠P.globals.size+1+i':=fun e=>by
      have:i=i':=by omega
      subst this;exact hne (s2.trans t2.symm)
     rcases csep _ _ q q' hii s3 t3 (by rw[← s4,← t4];exact hblk) with (g|g|g)|g
     ·rw[s7] at g;exact c.obj_cls.2.2.1 g
     ·rw[t7] at g;exact c'.obj_cls.2.2.1 g
     ·rw[s7] at g;exact g.1 c.obj_cls.1
     ·rw[s7,c.obj_cls.2.1,s9] at g;cases g.1
    ·exfalso
     exact hnoM i c q s1 s3 s7 s9 (by rw[← s4,hblk];exact t3)
   ·rcases hcase l' p' hl' with hn'|⟨i',c',q',t1,t2,t3,t4,t5,t6,t7,t8,t9,t10⟩|⟨t1,t2,t3⟩
    ·exact .inl (.inr (.inl hn'))
    ·exfalso
     exact hnoM i' c' q' t1 t3 t7 t9 (by rw[← t4,← hblk];exact s3)
    ·rw[s2,t2];exact h.sep l l' p p' hne s1 t1 hblk
  case cls=>
   by_cases hex:∃ i z,K.box'[i]? = some z∧z≠.same∧plR P.globals.size K.box.length π nx (P.globals.size+1+(0+i))=l
   ·exfalso
    obtain⟨i,z,h1,h2,h3⟩:=hex
    cases z with
    |same=>exact h2 rfl
    |gone=>have:=hH2 i h1;rw[h3] at this;rw[this] at hc0;exact hc0 rfl
    |set c=>have:=hH1 i c h1;rw[h3] at this;rw[this] at hc0;exact hc0 (instO_no c).2.1
   ·have e:=hH3 l fun i z h1 h2 h3=>hex ⟨i,z,h1,h2,h3⟩
    rw[e] at hc0 ⊢
    obtain⟨cur,lim,mk,g1,g2,g3⟩:=h.cls l hc0
    obtain⟨k1,k2,_⟩:=hokc l hc0
    exact⟨cur,lim,mk,k1.trans g1,g2,k2⟩
  case own=>
   have h0:0<w'.heap.size:=Nat.lt_of_lt_of_le (by omega) hext.size
   have hb0:p.blk<w'.heap.size:=by
    rcases hE2inv l p hl with⟨_,rfl⟩|⟨i,a1,a2,_,a4⟩|hEl
    ·exact h0
    ·exact (cown (P.globals.size+1+i) p (by rw[← hEc,cutEnv_box];exact a4)).1
    ·exact Nat.lt_of_lt_of_le (h.own l p hEl).1 hext.size
   refine⟨hb0,?_⟩
   rcases hcase l p hl with hn|⟨i,c,q,s1,s2,s3,s4,s5,s6,s7,s8,s9,s10⟩|⟨s1,s2,s3⟩
   ·exact .inl hn
   ·exact .inr (.inr fun hbo=>hnoM i c q s1 s3 s7 s9 (by rw[← s4];exact holdB _ hbo))
   ·rw[s2];exact (h.own l p s1).2
  case dat=>
   have hv:=hE2fz b o v ⟨l,p,hl,hf⟩
   obtain⟨g1,g2⟩:=hcells b o v hv
   refine⟨g1,fun l' p' hl' hb'=>?_⟩
   rcases hcase l' p' hl' with hn'|⟨i',c',q',t1,t2,t3,t4,t5,t6,t7,t8,t9,t10⟩|⟨t1,t2,t3⟩
   ·rw[hn'];exact .inl rfl
   ·have hm2:=g2 _ q' t3 (by rw[← t4];exact hb')
    rw[t7] at hm2
    rw[t8]
    cases c' with
    |own e=>show o<p'.base;rw[t5];exact hm2
    |cells el cs f ro=>
     rcases hm2 with hm2|hm2
     ·cases hm2
     ·exact .inr hm2
   ·rw[t2]
    obtain⟨l3,p3,h3,hf3⟩:=hφo b o v hv (by rw[← hb'];exact t3)
    exact (h.dat l3 p3 h3 b o v hf3).2 l' p' t1 hb'
  case fzo=>
   have hv:=hE2fz b o v ⟨l,p,hl,hf⟩
   obtain⟨l3,p3,h3,hf3⟩:=hφo b o v hv (holdB b hbo)
   exact h.fzo l3 p3 h3 b o v hf3 hbo
theorem Hooks.ctr {L:Nat}(hL:P.globals.size=L){K:Ctr}{tb:Nat→List Cl→Cl}{Pre:List Cl→Prop}{F:List Cl→List Cl}(hS:K.Sound P k G tb Pre F)(hwf:K.wf L=true){fn:Nat→List Cl→Cl}{fi:Nat}(hfn:∀ cls (j:Nat) c,(F cls)[j]? = some c→fn (fi+j) cls=c)
  (pi:Option Nat)(hpi:match pi with|none=>∀ cls,Pre cls|some p=>∀ cls,fn p cls=.bool true→Pre cls)(hG:Gd0 k G)(hk0:0<k)(hsz:P.globals.size≤k)(htb:Tb.tab=some (L,fn)):Hooks P k G (hkCtr L K fi pi):=by
 intro B hgb E H nx w g args xs v H' nx' hwr hgl hxs hh
 unfold hkCtr at hh
 cases hb:Nat.beq g K.f with
 |false=>rw[hb] at hh;cases hh
 |true=>
  rw[hb] at hh
  have e:=Nat.eq_of_beq_eq_true hb
  subst e
  simp only[cond_true] at hh
  split at hh
  ·rename_i π σ _ _
   cases hc:(matchL L π σ K.args args&&boxesOk L 0 K.bs K.ks π σ H (V.plsL args)&&needD L pi (X.ofL σ)) with
   |false=>rw[hc] at hh;cases hh
   |true=>
    rw[hc] at hh
    simp only[cond_true,Option.some.injEq,Prod.mk.injEq] at hh
    obtain⟨rfl,rfl,rfl⟩:=hh
    simp only[Bool.and_eq_true] at hc
    refine ctr_hook hG hk0 hsz hgb hL htb hS hwf hfn hwr hgl hxs hc.1.1 hc.1.2 ?_
    have hn:=hc.2
    cases pi with
    |none=>exact hpi _
    |some p=>
     refine hpi _ ?_
     simp only[needD] at hn
     cases hd:Dc.dec (.app L p (X.ofL σ) .bool) with
     |none=>rw[hd] at hn;cases hn
     |some b=>
      cases b with
      |false=>rw[hd] at hn;cases hn
      |true=>
       obtain⟨_,h2⟩:=hwr.decE _ _ hd
       obtain⟨p',hp,hpf⟩:=(hgb.2.2.mono hwr.le) L fn htb
       simp only[X.den,hp,Cl.hd,X.den_ofL] at h2
       rw[← hpf];exact h2
  ·cases hh
end
end Go.Exo

namespace Go.Exo
set_option linter.unusedSectionVars false
section
variable {E:Env}
theorem DatE.v {L:Nat}{vl:Nat→Cl}{fn:Nat→List Cl→Cl}(h:DatE E L vl fn)(i:Nat)(k:Kd):(X.var L i k).c E=vl i:=by rw[X.c,h.var];rfl
theorem DatE.a {L:Nat}{vl:Nat→Cl}{fn:Nat→List Cl→Cl}(h:DatE E L vl fn)(f:Nat)(a:X)(k:Kd):(X.app L f a k).c E=fn f (a.den E):=by rw[X.c,h.app];rfl
theorem X.c_int {k:IntKind}{n:Int}:(X.int k n).c E=.int n:=rfl
theorem X.c_bool {b:Bool}:(X.bool b).c E=.bool b:=rfl
theorem X.c_str {l n:Nat}:(X.str l n).c E=.str (sB l n):=rfl
theorem X.c_bin {op:BinOp}{a b:X}:(X.bin op a b).c E=binD op a.kd (a.c E) (b.c E):=rfl
theorem X.c_un {op:UnOp}{a:X}:(X.un op a).c E=unD op a.kd (a.c E):=rfl
theorem X.c_len {a:X}:(X.len a).c E=lenC (a.c E):=rfl
theorem X.c_inr {a b:X}:(X.inr a b).c E=inrD (a.c E) (b.c E):=rfl
theorem X.c_cmp {a b:X}:(X.cmp a b).c E=cmpD (a.c E) (b.c E):=rfl
theorem X.c_at {a b:X}:(X.atx a b).c E=atD (a.c E) (b.c E):=rfl
theorem X.c_el {a b:X}{j:Nat}{k:Kd}:(X.el a b j k).c E=elD (a.c E) (b.c E) j:=rfl
theorem X.d_nil:(X.nilA).den E=[]:=rfl
theorem X.d_cons {a b:X}:(X.cons a b).den E=a.c E::b.den E:=rfl
end
variable [Sx]
def resVx (L:Nat):Rsh→V
 |.one s=>(argV L [s] 0).headD .bad
 |.tup l=>.tup (argV L l 0)
def Ctr.fn (L f:Nat)(shs:List Ash)(rsh:Rsh):Ctr:={ f,args:=argV L shs 0,box:=[],ks:=kinds shs,res:=Go.Exo.resVx L rsh,box':=[],ks':=kinds rsh.l }
theorem Wts.nil_inv {cs:List Cl}(h:Wts [] cs):cs=[]:=by cases h;rfl
theorem Wts.cons_inv {k:Kd}{ks:List Kd}{cs:List Cl}(h:Wts (k::ks) cs):∃ c r,cs=c::r∧Wt k c∧Wts ks r:=by cases h with|cons h1 h2=>exact⟨_,_,rfl,h1,h2⟩
theorem Wt.int_inv {k:IntKind}{c:Cl}(h:Wt (.int k) c):∃ n,c=.int n∧k.min≤n∧n≤k.max:=by cases h with|int _ n h1 h2=>exact⟨n,rfl,h1,h2⟩
theorem Wt.bool_inv {c:Cl}(h:Wt .bool c):∃ b,c=.bool b:=by cases h with|bool b=>exact⟨b,rfl⟩
theorem Wt.str_inv {c:Cl}(h:Wt .str c):∃ s,c=.str s∧s.length≤maxLen:=by cases h with|str s h1=>exact⟨s,rfl,h1⟩
theorem Wt.sl_inv {e:TypeId}{c:Cl}(h:Wt (.sl e) c):∃ nl rows,c=.sl nl rows∧rows.length≤maxLen∧(nl=true→rows=[])∧∀ r∈rows,Wts (Sx.row e) r:=by
 cases h with
 |nil=>exact⟨true,[],rfl,Nat.zero_le _,fun _=>rfl,fun r hr=>by cases hr⟩
 |sl _ rows h1 h2 h3=>
  refine⟨false,rows,rfl,h1,fun e=>by (cases e),fun r hr=>?_⟩
  obtain⟨i,hi⟩:=List.getElem?_of_mem hr
  have hl:=h2 i r hi
  have key:∀ (ks:List Kd)(r:List Cl),r.length=ks.length→(∀ (j:Nat) c k,r[j]? = some c→ks[j]? = some k→Wt k c)→Wts ks r:=by
   intro ks
   induction ks with
   |nil=>intro r hr _;rw[List.length_eq_zero_iff.1 hr];exact .nil
   |cons k ks ih=>
    intro r hr hj
    cases r with
    |nil=>simp at hr
    |cons c r=>exact .cons (hj 0 c k rfl rfl) (ih r (by simpa using hr) fun j c k a b=>hj (j+1) c k (by simpa using a) (by simpa using b))
  exact key _ r hl fun j c k a b=>h3 i r j c k hi a b
theorem row_at {ks:List Kd}{rows:List (List Cl)}(h:∀ r∈rows,Wts ks r){i:Nat}(hi:i<rows.length):∃ r,rows.getD i []=r∧Wts ks r∧rows.drop i=r::rows.drop (i+1)∧rows[i]? = some r:=by
 refine⟨rows[i],?_,h _ (List.getElem_mem hi),List.drop_eq_getElem_cons hi,List.getElem?_eq_getElem hi⟩
 rw[List.getD_eq_getElem?_getD,List.getElem?_eq_getElem hi];rfl
theorem Wts.one {k:Kd}{cs:List Cl}(h:Wts [k] cs):∃ c,cs=[c]∧Wt k c:=by
 obtain⟨c,r,rfl,h1,h2⟩:=h.cons_inv
 rw[h2.nil_inv];exact⟨c,rfl,h1⟩
theorem i64_id {n:Int}(h1 : -9223372036854775808≤n)(h2:n≤9223372036854775807):IntKind.wrap .i64 n=n:=
 wrap_id _ _ (by simp[IntKind.min,IntKind.max,IntKind.signed,IntKind.bits];omega)
end Go.Exo

namespace Go.Exo
set_option linter.unusedSectionVars false
variable [Sx]{P:Program}{k:Nat}{G:World→Prop}
theorem varsX_c {E:Env}{L:Nat}{vl:Nat→Cl}{fn:Nat→List Cl→Cl}(h:DatE E L vl fn):∀ {ks:List Kd}{r:List Cl}(i:Nat),r.length=ks.length→(∀ j,vl (i+j)=r.getD j .no)→(varsX L ks i).map (X.c E)=r
 |[],r,_,hl,_=>by
  have:r=[]:=List.length_eq_zero_iff.1 hl
  subst this;rfl
 |k::ks,[],_,hl,_=>by simp at hl
 |k::ks,c::r,i,hl,hv=>by
  show (X.var L i k).c E::(varsX L ks (i+1)).map (X.c E)=c::r
  have h0:=hv 0
  simp only[Nat.add_zero,List.getD_cons_zero] at h0
  rw[h.v,h0,varsX_c h (i+1) (r:=r) (by simpa using hl) (fun j=>by have:=hv (j+1);rw[show i+1+j=i+(j+1) by omega,this];simp)]
theorem Ctr.Sound.spec {L f:Nat}{shs:List Ash}{rsh:Rsh}{tb:Nat→List Cl→Cl}{Pre:List Cl→Prop}{F:List Cl→List Cl}(hL:P.globals.size=L)(hG:Gd0 k G)(hk0:0<k)(hsz:P.globals.size≤k)
  (h:(Ctr.fn L f shs rsh).Sound P k G tb Pre F)(hx:rshX rsh (resVx L rsh)=some (varsX L (kinds rsh.l) 0)):Spec P G f shs rsh Pre F:=by
 subst hL
 intro w φ args cls hw hφ ha hp
 have hkw:=hG.size w hw
 have hpl:∀ p∈([]:List Pl),p.ob=noOb:=fun p hp=>by cases hp
 have hst : @WR _ (dcOf []) ⟨w,fun b=>b<w.heap.size,fun b hb=>hb,cutEnv P (ghOf φ cls tb) []⟩ (cutEnv P (ghOf φ cls tb) []) .e (P.globals.size+1) w:=by
  letI:=dcOf []
  have e0:cutEnv P (ghOf φ cls tb) []=stEnv P (ghOf φ cls tb):=by
   funext l
   unfold cutEnv stEnv
   split<;>rename_i h1
   ·first|rfl|(rw[if_pos h1])
   ·split<;>rename_i h2
    ·simp
    ·simp
  rw[e0]
  exact WR.startX (P:=P) (w:=w) (g:=ghOf φ cls tb) (nx:=Nat.succ P.globals.size) (by omega) (by omega) (Nat.lt_succ_self _) hφ fun t b hdd=>by
   have e:decOf [] t=some b:=hdd
   rw[decOf_nil] at e;cases e
 have hargs:VRs (cutEnv P (ghOf φ cls tb) []) (argV P.globals.size shs 0) args:=argV_ok cutEnv_at 0 (ha.mono fun b o v hv=>(cutEnv_fz hpl).2 hv) fun j c hc=>by
  show cls.getD (0+j) .no=c
  simp[List.getD,hc]
 refine (h w (fun b=>b<w.heap.size) (fun b hb=>hb) φ [] cls args hw (fun i hi=>by show i<w.heap.size;omega) hpl rfl hst hargs ha.wt hp).mono ?_
 rintro e w' ⟨x,φ',pls',hlt,rfl,hpl',h01,h10,hext,hwr,hres,hwt,_⟩
 letI:=dcOf []
 have hdat:DatE (cutEnv P (ghOf φ' (F cls) tb) pls') P.globals.size (fun i=>(F cls).getD i .no) tb:=⟨_,cutEnv_at,rfl,rfl⟩
 have hr:=(rshX_ok (r:=rsh) hres hx).2
 rw[varsX_c hdat (ks:=kinds rsh.l) 0 hwt.length.symm (fun j=>by rw[Nat.zero_add])] at hr
 refine⟨x,φ',rfl,h01,fun b o v hv=>fz_cell hwr ((cutEnv_fz hpl').2 hv),fun b o v hv hb=>h10 b o v hv hb,⟨fun b hb=>hext.old b hb,hext.size,hext.os,hext.output,hext.tape⟩,?_⟩
 cases rsh with
 |one s=>exact ArgR.mono (fun b o v hv=>(cutEnv_fz hpl').1 hv) hr
 |tup l=>
  obtain⟨xs,e1,e2⟩:=hr
  exact⟨xs,e1,ArgR.mono (fun b o v hv=>(cutEnv_fz hpl').1 hv) e2⟩
end Go.Exo
