/-
  SX, part P: paths as trees: what is left to show of them; functions of which nothing is said but that they answer. Own text.
-/
import Derived.Test.YtihaakenfdkgnaaGreatDoorPart16
set_option linter.all false
noncomputable section
namespace Go.Exo
inductive Tr where
 |leaf (n:Nat)(to:To)
 |ask (t:X)(a b:Tr)
 |must (t:X)(c:Bool)(a:Tr)
def Tr.paths:Tr->List (X×Bool)->List Pth
 |.leaf n to,pre=>[⟨pre,n,to⟩]
 |.ask t a b,pre=>a.paths (pre++[(t,true)])++b.paths (pre++[(t,false)])
 |.must t c a,pre=>a.paths (pre++[(t,c)])
def Tr.vc (E:Env)(Q:To->Prop):Tr->Prop
 |.leaf _ to=>Q to
 |.ask t a b=>(∃ c,t.c E=.bool c)/\(t.c E=.bool true->a.vc E Q)/\(t.c E=.bool false->b.vc E Q)
 |.must t c a=>t.c E=.bool c/\a.vc E Q
open Classical in
def Tr.ev (E:Env):Tr->To
 |.leaf _ to=>to
 |.ask t a b=>if t.c E=.bool true then a.ev E else b.ev E
 |.must _ _ a=>a.ev E
theorem fP {E:Env}{a b:List (X×Bool)}:holds E (a++b)<->holds E a/\holds E b:=by
 simp only[holds,List.mem_append];exact⟨fun h=>⟨fun x hx=>h x (.inl hx),fun x hx=>h x (.inr hx)⟩,fun⟨h1,h2⟩ x hx=>hx.elim (h1 x) (h2 x)⟩
theorem Tr.cover {E:Env}{Q:To->Prop}:∀ {tr:Tr}{pre:List (X×Bool)},tr.vc E Q->holds E pre->∃ p∈tr.paths pre,holds E p.decs/\p.to=tr.ev E/\Q p.to
 |.leaf n to,pre,h,hp=>⟨_,List.mem_singleton.2 rfl,hp,rfl,h⟩
 |.ask t a b,pre,⟨⟨c,hc⟩,h1,h2⟩,hp=>by
  cases c with
  |true=>
   obtain⟨p,g1,g2,g3,g4⟩:=Tr.cover (pre:=pre++[(t,true)]) (h1 hc) (fP.2 ⟨hp,by simp[holds,hc]⟩);refine⟨p,List.mem_append_left _ g1,g2,?_,g4⟩;rw[Tr.ev,if_pos hc];exact g3
  |false=>
   obtain⟨p,g1,g2,g3,g4⟩:=Tr.cover (pre:=pre++[(t,false)]) (h2 hc) (fP.2 ⟨hp,by simp[holds,hc]⟩);refine⟨p,List.mem_append_right _ g1,g2,?_,g4⟩;rw[Tr.ev,if_neg (by rw[hc];intro h;cases h)];exact g3
 |.must t c a,pre,⟨hc,h1⟩,hp=>by
  obtain⟨p,g1,g2,g3,g4⟩:=Tr.cover (pre:=pre++[(t,c)]) h1 (fP.2 ⟨hp,by simp[holds,hc]⟩);exact⟨p,g1,g2,g3,g4⟩
def To.at1 (L:Nat):To->Bool
 |.ret _ σ=>σ.all (X.at1 L)
 |.cut _ _ σ=>σ.all (X.at1 L)
def Tr.at1 (L:Nat):Tr->Bool
 |.leaf _ to=>to.at1 L
 |.ask t a b=>t.at1 L&&(a.at1 L&&b.at1 L)
 |.must t _ a=>t.at1 L&&a.at1 L
theorem mC {L:Nat}{a b:X}(h:(a.pls++b.pls).all (Nat.beq L)=true):a.at1 L=true/\b.at1 L=true:=by
 rw[List.all_append,Bool.and_eq_true] at h;exact h
theorem at1_3 {L:Nat}{a b c:X}(h:(a.pls++(b.pls++c.pls)).all (Nat.beq L)=true):a.at1 L=true/\b.at1 L=true/\c.at1 L=true:=by
 rw[List.all_append,List.all_append,Bool.and_eq_true,Bool.and_eq_true] at h;exact h
theorem X.den_dat {E E':Env}{L:Nat}{vl:Nat->Cl}{fn:Nat->List Cl->Cl}(h:DatE E L vl fn)(h':DatE E' L vl fn):∀ {t:X},t.at1 L=true->t.den E=t.den E':=by
 intro t;induction t with
 |var l i k=>
  intro ht;have:l=L:=by simp only[X.at1,X.pls,List.all_cons,List.all_nil,Bool.and_true] at ht;exact (aa ht).symm
  subst this;rw[h.var,h'.var]
 |bin _ a b iha ihb=>intro ht;obtain⟨h1,h2⟩:=mC ht;simp only[X.den,iha h1,ihb h2]
 |inr a b iha ihb=>intro ht;obtain⟨h1,h2⟩:=mC ht;simp only[X.den,iha h1,ihb h2]
 |cmp a b iha ihb=>intro ht;obtain⟨h1,h2⟩:=mC ht;simp only[X.den,iha h1,ihb h2]
 |atx a b iha ihb=>intro ht;obtain⟨h1,h2⟩:=mC ht;simp only[X.den,iha h1,ihb h2]
 |el a b _ _ iha ihb=>intro ht;obtain⟨h1,h2⟩:=mC ht;simp only[X.den,iha h1,ihb h2]
 |snoc a b iha ihb=>intro ht;obtain⟨h1,h2⟩:=mC ht;simp only[X.den,iha h1,ihb h2]
 |cat a b iha ihb=>intro ht;obtain⟨h1,h2⟩:=mC ht;simp only[X.den,iha h1,ihb h2]
 |cons a b iha ihb=>intro ht;obtain⟨h1,h2⟩:=mC ht;simp only[X.den,iha h1,ihb h2]
 |un _ a ih=>intro ht;simp only[X.den,ih ht]
 |conv _ a ih=>intro ht;simp only[X.den,ih ht]
 |len a ih=>intro ht;simp only[X.den,ih ht]
 |isnil a ih=>intro ht;simp only[X.den,ih ht]
 |rng a b c iha ihb ihc=>intro ht;obtain⟨h1,h2,h3⟩:=at1_3 ht;simp only[X.den,iha h1,ihb h2,ihc h3]
 |sub a b c iha ihb ihc=>intro ht;obtain⟨h1,h2,h3⟩:=at1_3 ht;simp only[X.den,iha h1,ihb h2,ihc h3]
 |cut a b c iha ihb ihc=>intro ht;obtain⟨h1,h2,h3⟩:=at1_3 ht;simp only[X.den,iha h1,ihb h2,ihc h3]
 |app l f a k ih=>
  intro ht;have ht':(l::a.pls).all (Nat.beq L)=true:=ht;rw[List.all_cons,Bool.and_eq_true] at ht';have:l=L:=(aa ht'.1).symm;subst this;rw[h.app,h'.app,ih ht'.2]
 |_=>exact fun _=>rfl
theorem X.c_dat {E E':Env}{L:Nat}{vl:Nat->Cl}{fn:Nat->List Cl->Cl}(h:DatE E L vl fn)(h':DatE E' L vl fn){t:X}(ht:t.at1 L=true):t.c E=t.c E':=by unfold X.c;rw[X.den_dat h h' ht]
theorem X.cs_dat {E E':Env}{L:Nat}{vl:Nat->Cl}{fn:Nat->List Cl->Cl}(h:DatE E L vl fn)(h':DatE E' L vl fn){l:List X}(hl:l.all (X.at1 L)=true):l.map (X.c E)=l.map (X.c E'):=
 List.map_congr_left fun t ht=>X.c_dat h h' (List.all_eq_true.1 hl t ht)
theorem Tr.ev_dat {E E':Env}{L:Nat}{vl:Nat->Cl}{fn:Nat->List Cl->Cl}(h:DatE E L vl fn)(h':DatE E' L vl fn):∀ {tr:Tr},tr.at1 L=true->tr.ev E=tr.ev E'
 |.leaf _ _,_=>rfl
 |.ask t a b,ht=>by
  simp only[Tr.at1,Bool.and_eq_true] at ht;rw[Tr.ev,Tr.ev,X.c_dat h h' ht.1,Tr.ev_dat h h' ht.2.1,Tr.ev_dat h h' ht.2.2]
 |.must t c a,ht=>by
  simp only[Tr.at1,Bool.and_eq_true] at ht;rw[Tr.ev,Tr.ev,Tr.ev_dat h h' ht.2]
theorem Tr.ev_at1 {E:Env}{L:Nat}:∀ {tr:Tr},tr.at1 L=true->(tr.ev E).at1 L=true
 |.leaf _ _,h=>h
 |.ask t a b,ht=>by
  simp only[Tr.at1,Bool.and_eq_true] at ht;rw[Tr.ev];split
  ·exact Tr.ev_at1 ht.2.1
  ·exact Tr.ev_at1 ht.2.2
 |.must t c a,ht=>by
  simp only[Tr.at1,Bool.and_eq_true] at ht;rw[Tr.ev];exact Tr.ev_at1 ht.2
def jF (L:Nat)(tb:Nat->List Cl->Cl)(cls:List Cl):Env:=fun l=>if l=L then some ⟨0,0,0,undef,ghOf (fun _ _=>none) cls tb,[]⟩ else none
theorem cU {L:Nat}{tb:Nat->List Cl->Cl}{cls:List Cl}:DatE (jF L tb cls) L (fun i=>cls.getD i .no) tb:=⟨_,if_pos rfl,rfl,rfl⟩
inductive RunT (L:Nat)(tb:Nat->List Cl->Cl)(trs:List Tr):Tr->List Cl->List Cl->Prop where
 |ret {tr:Tr}{cls:List Cl}{π:List Nat}{σ:List X}:tr.ev (jF L tb cls)=.ret π σ->RunT L tb trs tr cls (σ.map (X.c (jF L tb cls)))
 |cut {tr tr':Tr}{cls:List Cl}{j:Nat}{π:List Nat}{σ:List X}{r:List Cl}:tr.ev (jF L tb cls)=.cut j π σ->trs[j]? = some tr'->RunT L tb trs tr' (σ.map (X.c (jF L tb cls))) r->RunT L tb trs tr cls r
theorem RunT.det {L:Nat}{tb:Nat->List Cl->Cl}{trs:List Tr}{tr:Tr}{cls r r':List Cl}(h:RunT L tb trs tr cls r)(h':RunT L tb trs tr cls r'):r=r':=by
 induction h with
 |ret h1=>
  cases h' with
  |ret h2=>rw[h1] at h2;cases h2;rfl
  |cut h2 _ _=>rw[h1] at h2;cases h2
 |cut h1 h2 _ ih=>
  cases h' with
  |ret h3=>rw[h1] at h3;cases h3
  |cut h3 h4 h5=>rw[h1] at h3;cases h3;rw[h2] at h4;cases h4;exact ih h5
def To.goodT (Inv:Nat->List Cl->List Cl->Prop)(bd:Nat->List Cl->Prop)(Post:List Cl->List Cl->Prop)(cls0:List Cl)(E:Env):To->Prop
 |.ret _ σ=>Post cls0 (σ.map (X.c E))
 |.cut j _ σ=>Inv j cls0 (σ.map (X.c E))/\bd j (σ.map (X.c E))
variable [Sx] [Tb]{P:Program}{k:Nat}{G:World->Prop}
def Ctr.Sound (P:Program)(k:Nat)(G:World->Prop)(K:Ctr)(tb:Nat->List Cl->Cl)(Pre:List Cl->Prop)(F:List Cl->List Cl):Prop:=
 ∀ (w:World)(old:Nat->Prop)(hold:∀ b,old b->b<w.heap.size)(φ:Nat->Nat->Option Value)(pls:List Pl)(cls:List Cl)(xs:List Value),G w->(∀ i,i<k->old i)->(∀ p∈pls,p.ob=noOb)->pls.length=K.box.length->
  @WR _ (dcOf []) ⟨w,old,hold,ax P (ghOf φ cls tb) pls⟩ (ax P (ghOf φ cls tb) pls) (df P.globals.size K.bs) (P.globals.size+1+K.bs.length) w->VRs (ax P (ghOf φ cls tb) pls) K.args xs->Wts K.ks cls->Pre cls->
  Calls P K.f xs.toArray w (CtrR P old w φ pls tb K (F cls))
def Vc0 (tb:Nat->List Cl->Cl)(L:Nat)(ks:List Kd)(Pre:List Cl->Prop)(Inv:Nat->List Cl->List Cl->Prop)(Post:List Cl->List Cl->Prop)(tr:Tr):Prop:=
 ∀ cls E,DatE E L (fun i=>cls.getD i .no) tb->Wts ks cls->Pre cls->tr.vc E (To.goodT Inv (fun _ _=>True) Post cls E)
def Vc {α:Type}(lt:α->α->Prop)(m:Nat->List Cl->α)(tb:Nat->List Cl->Cl)(L:Nat)(ks:List Kd)(Inv:Nat->List Cl->List Cl->Prop)(Post:List Cl->List Cl->Prop)(i:Nat)(tr:Tr):Prop:=
 ∀ cls0 cls E,DatE E L (fun i=>cls.getD i .no) tb->Wts ks cls->Inv i cls0 cls->tr.vc E (To.goodT Inv (fun j c=>lt (m j c) (m i cls)) Post cls0 E)
def VcOk {α:Type}(P:Program)(hk:Dc->Hook)(L:Nat)(K:Ctr)(cuts:List Ct)(lt:α->α->Prop)(m:Nat->List Cl->α)(tb:Nat->List Cl->Cl)(Inv:Nat->List Cl->List Cl->Prop)(Post:List Cl->List Cl->Prop):List Ct->List Tr->Nat->Prop
 |[],[],_=>True
 |C::Cs,tr::trs,i=>(Pth.allC P hk L K cuts C (tr.paths [])/\Vc lt m tb L C.ks Inv Post i tr)/\VcOk P hk L K cuts lt m tb Inv Post Cs trs (i+1)
 |_,_,_=>False
theorem VcOk.get {α:Type}{hk:Dc->Hook}{L:Nat}{K:Ctr}{cuts:List Ct}{lt:α->α->Prop}{m:Nat->List Cl->α}{tb:Nat->List Cl->Cl}{Inv:Nat->List Cl->List Cl->Prop}{Post:List Cl->List Cl->Prop} :
  ∀ {Cs:List Ct}{trs:List Tr}{n:Nat},VcOk P hk L K cuts lt m tb Inv Post Cs trs n->∀ i C,Cs[i]? = some C->∃ tr,trs[i]? = some tr/\Pth.allC P hk L K cuts C (tr.paths [])/\Vc lt m tb L C.ks Inv Post (n+i) tr
 |[],[],_,_,i,C,hC=>by simp at hC
 |[],_::_,_,h,_,_,_=>h.elim
 |_::_,[],_,h,_,_,_=>h.elim
 |D::Cs,tr::trs,n,h,i,C,hC=>by
  cases i with
  |zero=>simp at hC;subst hC;exact⟨tr,rfl,h.1⟩
  |succ i=>
   obtain⟨tr,h0,h1,h2⟩:=VcOk.get h.2 i C (by simpa using hC);exact⟨tr,by simpa using h0,h1,by rw[show n+(i+1)=n+1+i by omega];exact h2⟩
def sW (L:Nat)(K:Ctr)(cuts:List Ct)(trs:List Tr):Bool:=cuts.all (fun C=>C.ok L&&gk K.box.length C.box)&&trs.all (Tr.at1 L)&&K.ok L
section
variable {α:Type}{lt:α->α->Prop}{m:Nat->List Cl->α}{Inv:Nat->List Cl->List Cl->Prop}{Post:List Cl->List Cl->Prop}{hk:Dc->Hook}
theorem Az (wf:WellFounded lt)(hG:Gd0 k G)(hok:∀ D,@aq _ (dcOf D) _ P k G (hk (dcOf D)))(hsz:P.globals.size<=k)
  {tb:Nat->List Cl->Cl}(htb:Tb.tab=some (P.globals.size,tb)){K:Ctr}{cuts:List Ct}{trs:List Tr}(hcuts:∀ C∈cuts,C.ok P.globals.size=true/\gk K.box.length C.box=true)(hK:K.ok P.globals.size=true)(hat1:trs.all (Tr.at1 P.globals.size)=true)
  (hvc:VcOk P hk P.globals.size K cuts lt m tb Inv Post cuts trs 0){old:Nat->Prop}{w0:World}{φ0:Nat->Nat->Option Value}{pls0:List Pl}(hw0:G w0)(hkw:∀ i,i<k->old i){cs:List Frame}{cls0:List Cl} :
  ∀ a,∀ (i:Nat) C tr cls fr w,cuts[i]? = some C->trs[i]? = some tr->m i cls=a->Inv i cls0 cls->At P old w0 φ0 pls0 tb K C cls fr w->∃ r,RunT P.globals.size tb trs tr cls r/\Post cls0 r/\Ends P K.f cs fr w (CtrR P old w0 φ0 pls0 tb K r):=by
 intro a;induction a using wf.induction with
 |_ a iha=>
 intro i C tr cls fr w hC htr' ha hinv hat;obtain⟨hext,hlt,hfn,hkind,hround,hdef,hmode,hsize,hwt,φ,pls,hpl,h01,h10,hwr0,htr,htd,hkp,hpln⟩:=hat;obtain⟨tr2,e2,hpok,hobl⟩:=hvc.get i C hC;rw[htr'] at e2;cases e2;rw[Nat.zero_add] at hobl;have hdat:DatE (ax P (ghOf φ cls tb) pls) P.globals.size (fun i=>cls.getD i .no) tb:=⟨_,bj,rfl,rfl⟩
 have htr1:=List.all_eq_true.1 hat1 tr (List.mem_of_getElem? htr');obtain⟨p,hp,hh,hev,hto⟩:=Tr.cover (pre:=[]) (hobl cls0 cls _ hdat hwt hinv) (by simp[holds]);have hev':=hev.trans (Tr.ev_dat hdat cU htr1);obtain⟨hd,hok2⟩:=Pth.allC_mem hpok p hp
 letI:=dcOf p.decs
 have hw:=WR.withD (D:=p.decs) hwr0 fun t b hdd=>⟨lK (vp hdd hd),vo hdd hh⟩
 have hgw:G w:=hG.keep w0 w (fun b hb=>hext.old b (hkw b hb)) hw0;have hglw:P.globals.size<=w.heap.size:=Nat.le_trans hsz (hG.size w hgw)
 have hgb:GB k G (⟨w,old,hlt,ax P (ghOf φ cls tb) pls⟩:Bs):=
  ⟨hkw,hgw,fun pl fn' ht=>by rw[htb] at ht;cases ht;exact⟨_,bj,rfl⟩⟩
 have hmr:MR P (⟨w,old,hlt,ax P (ghOf φ cls tb) pls⟩:Bs) cs (ax P (ghOf φ cls tb) pls) .run C.todo (C.ctx P.globals.size K.f) fr cs w:=
  ⟨hw,qD,⟨0,Nat.zero_le _,rfl⟩,hfn,hkind,hround,hdef,hmode,hsize,RunR.of htd htr⟩
 have hfin:=iu hG (hok p.decs) p.n _ cs hgb _ _ _ _ _ _ _ hmr;have hat0:=Tr.ev_at1 (E:=jF P.globals.size tb cls) htr1;have hlive:=vu (hcuts C (List.mem_of_getElem? hC)).2;have hnb:K.box.length<=pls.length:=by rw[hpln];exact qG (hcuts C (List.mem_of_getElem? hC)).2
 cases hpt:p.to with
 |ret π σ=>
  rw[hpt] at hok2 hto hev';rw[<- hev'] at hat0;have hto':Post cls0 (σ.map (X.c (ax P (ghOf φ cls tb) pls))):=hto;have e:=X.cs_dat hdat cU hat0;refine⟨_,.ret hev'.symm,by rw[<- e];exact hto',?_⟩;rw[<- e];exact vw (bs:=C.box) hext hlt hpl h01 h10 hglw hnb hkp (fun i b hi _=>hlive i hi) hfin hK hok2
 |cut j π σ=>
  rw[hpt] at hok2 hto hev';rw[<- hev'] at hat0;obtain⟨C',hC',hck⟩:=hok2;obtain⟨hg2,hlt2⟩:=hto;obtain⟨tr',htj,_,_⟩:=hvc.get j C' hC';obtain⟨fr',w',hst,hat'⟩:=vv (bs:=C.box) hext hlt hpl h01 h10 hglw hnb hkp (fun i b hi _=>hlive i hi) hfin (hcuts C' (List.mem_of_getElem? hC')).1 hck;obtain⟨r,r1,r2,r3⟩:=iha _ (by rw[<- ha];exact hlt2) j C' tr' _ fr' w' hC' htj rfl hg2 hat';have e:=X.cs_dat hdat cU hat0;rw[e] at r1;exact⟨r,.cut hev'.symm htj r1,r2,Ends.steps hst r3⟩
theorem run_T (wf:WellFounded lt)(hG:Gd0 k G)(hok:∀ D,@aq _ (dcOf D) _ P k G (hk (dcOf D)))(hsz:P.globals.size<=k)
  {L:Nat}(hL:P.globals.size=L){tb:Nat->List Cl->Cl}(htb:Tb.tab=some (L,tb)){K:Ctr}{cuts:List Ct}{tr0:Tr}{trs:List Tr}(hcuts:sW L K cuts (tr0::trs)=true)
  {Pre:List Cl->Prop}(hpok:Pth.allS P hk L K cuts (tr0.paths []))(hv0:Vc0 tb L K.ks Pre Inv Post tr0)(hvc:VcOk P hk L K cuts lt m tb Inv Post cuts trs 0)
  {w:World}{old:Nat->Prop}{hold:∀ b,old b->b<w.heap.size}{φ:Nat->Nat->Option Value}{pls:List Pl}{cls:List Cl}{xs:List Value}(hw:G w)(hkw:∀ i,i<k->old i)(hpl:∀ p∈pls,p.ob=noOb)(hln:pls.length=K.box.length)
  (hwr0 : @WR _ (dcOf []) ⟨w,old,hold,ax P (ghOf φ cls tb) pls⟩ (ax P (ghOf φ cls tb) pls) (df P.globals.size K.bs) (P.globals.size+1+K.bs.length) w)(hargs:VRs (ax P (ghOf φ cls tb) pls) K.args xs)(hwt:Wts K.ks cls)(hp:Pre cls) :
  ∃ r,RunT L tb trs tr0 cls r/\Post cls r/\Calls P K.f xs.toArray w (CtrR P old w φ pls tb K r):=by
 subst hL;simp only[sW,Bool.and_eq_true] at hcuts;obtain⟨⟨hc1,hat1⟩,hK⟩:=hcuts;have hcuts':∀ C∈cuts,C.ok P.globals.size=true/\gk K.box.length C.box=true:=fun C hC=>by have:=List.all_eq_true.1 hc1 C hC;simpa using this
 rw[List.all_cons,Bool.and_eq_true] at hat1;have hdat:DatE (ax P (ghOf φ cls tb) pls) P.globals.size (fun i=>cls.getD i .no) tb:=⟨_,bj,rfl,rfl⟩
 obtain⟨p,hmem,hh,hev,hto⟩:=Tr.cover (pre:=[]) (hv0 cls _ hdat hwt hp) (by simp[holds]);have hev':=hev.trans (Tr.ev_dat hdat cU hat1.1);have hat0:=Tr.ev_at1 (E:=jF P.globals.size tb cls) hat1.1;obtain⟨hd,hok2⟩:=Pth.allS_mem hpok p hmem;have hglw:P.globals.size<=w.heap.size:=Nat.le_trans hsz (hG.size w hw);have hst:=letI:=dcOf p.decs;WR.withD (D:=p.decs) hwr0 fun t b hdd=>⟨lK (vp hdd hd),vo hdd hh⟩
 have hlive:∀ i,i<K.box.length->∃ b,K.bs[i]? = some (some b):=fun i hi=>⟨K.box[i],by unfold Ctr.bs;rw[List.getElem?_map,ah hi];rfl⟩
 have key:∀ cs,∃ r,RunT P.globals.size tb trs tr0 cls r/\Post cls r/\Ends P K.f cs (Frame.enter P K.f xs.toArray .normal) w (CtrR P old w φ pls tb K r):=by
  intro cs
  letI:=dcOf p.decs
  have hgb:GB k G (⟨w,old,hold,ax P (ghOf φ cls tb) pls⟩:Bs):=⟨hkw,hw,fun pl fn' ht=>by rw[htb] at ht;cases ht;exact⟨_,bj,rfl⟩⟩
  have hfin:Fin P (⟨w,old,hold,ax P (ghOf φ cls tb) pls⟩:Bs) cs (outS P hk P.globals.size K p.decs p.n) (Frame.enter P K.f xs.toArray .normal) cs w:=
   gO (od hG aq.nil (iu hG (hok p.decs) p.n) _ cs hgb) hst qD (afs:=[]) (frs:=cs) rfl hargs .normal
  cases hpt:p.to with
  |ret π σ=>
   rw[hpt] at hok2 hto hev';rw[<- hev'] at hat0;have hto':Post cls (σ.map (X.c (ax P (ghOf φ cls tb) pls))):=hto;have e:=X.cs_dat hdat cU hat0;refine⟨_,.ret hev'.symm,by rw[<- e];exact hto',?_⟩;rw[<- e];exact vw (bs:=K.bs) (ExtO.refl old w) hold hpl (fun _ _ _ h=>h) (fun _ _ _ h _=>h) hglw (Nat.le_of_eq hln.symm) (fun _ _ _ _=>rfl) (fun i b hi _=>hlive i hi) hfin hK hok2
  |cut j π σ=>
   rw[hpt] at hok2 hto hev';rw[<- hev'] at hat0;obtain⟨C',hC',hck⟩:=hok2;obtain⟨hg2,_⟩:=hto;obtain⟨tr',htj,_,_⟩:=hvc.get j C' hC';obtain⟨fr',w',hst',hat'⟩:=vv (bs:=K.bs) (ExtO.refl old w) hold hpl (fun _ _ _ h=>h) (fun _ _ _ h _=>h) hglw (Nat.le_of_eq hln.symm) (fun _ _ _ _=>rfl) (fun i b hi _=>hlive i hi) hfin (hcuts' C' (List.mem_of_getElem? hC')).1 hck;obtain⟨r,r1,r2,r3⟩:=Az wf hG hok hsz htb hcuts' hK hat1.2 hvc hw hkw _ j C' tr' _ fr' w' hC' htj rfl hg2 hat';have e:=X.cs_dat hdat cU hat0;rw[e] at r1;exact⟨r,.cut hev'.symm htj r1,r2,Ends.steps hst' r3⟩
 obtain⟨r,h1,h2,_⟩:=key [];refine⟨r,h1,h2,fun cs=>?_⟩;obtain⟨r',g1,_,g3⟩:=key cs;rw[h1.det g1];exact g3
theorem Ctr.ofT (wf:WellFounded lt)(m:Nat->List Cl->α)(Inv:Nat->List Cl->List Cl->Prop)(hG:Gd0 k G)(hok:∀ D,@aq _ (dcOf D) _ P k G (hk (dcOf D)))(hsz:P.globals.size<=k)
  {L:Nat}(hL:P.globals.size=L){tb:Nat->List Cl->Cl}(htb:Tb.tab=some (L,tb)){K:Ctr}{cuts:List Ct}{tr0:Tr}{trs:List Tr}(hcuts:sW L K cuts (tr0::trs)=true)
  {Pre:List Cl->Prop}{F:List Cl->List Cl}(hpok:Pth.allS P hk L K cuts (tr0.paths []))(hv0:Vc0 tb L K.ks Pre Inv (fun cls r=>r=F cls) tr0)(hvc:VcOk P hk L K cuts lt m tb Inv (fun cls r=>r=F cls) cuts trs 0):K.Sound P k G tb Pre F:=by
 intro w old hold φ pls cls xs hw hkw hpl hln hwr hargs hwt hp;obtain⟨r,_,h2,h3⟩:=run_T wf hG hok hsz hL htb hcuts hpok hv0 hvc hw hkw hpl hln hwr hargs hwt hp;rw[<- h2];exact h3
theorem Ctr.total (wf:WellFounded lt)(m:Nat->List Cl->α)(Inv:Nat->List Cl->List Cl->Prop)(Post:List Cl->List Cl->Prop)(hG:Gd0 k G)(hok:∀ D,@aq _ (dcOf D) _ P k G (hk (dcOf D)))(hsz:P.globals.size<=k)
  {L:Nat}(hL:P.globals.size=L){tb:Nat->List Cl->Cl}(htb:Tb.tab=some (L,tb)){K:Ctr}{cuts:List Ct}{tr0:Tr}{trs:List Tr}(hcuts:sW L K cuts (tr0::trs)=true)
  {Pre:List Cl->Prop}(hpok:Pth.allS P hk L K cuts (tr0.paths []))(hv0:Vc0 tb L K.ks Pre Inv Post tr0)(hvc:VcOk P hk L K cuts lt m tb Inv Post cuts trs 0)(hex:∀ cls,∃ r,Post cls r):∃ F,K.Sound P k G tb Pre F/\∀ cls,Post cls (F cls):=by
 classical
 refine⟨fun cls=>if h:∃ r,RunT L tb trs tr0 cls r/\Post cls r then Classical.choose h else Classical.choose (hex cls),?_,fun cls=>?_⟩
 ·intro w old hold φ pls cls xs hw hkw hpl hln hwr hargs hwt hp
  obtain⟨r,h1,h2,h3⟩:=run_T wf hG hok hsz hL htb hcuts hpok hv0 hvc hw hkw hpl hln hwr hargs hwt hp;have hh:∃ r,RunT L tb trs tr0 cls r/\Post cls r:=⟨r,h1,h2⟩
  have e:(if h:∃ r,RunT L tb trs tr0 cls r/\Post cls r then Classical.choose h else Classical.choose (hex cls))=r:=by
   rw[dif_pos hh];exact (Classical.choose_spec hh).1.det h1
  rw[<- e] at h3;exact h3
 ·show Post cls (if h:∃ r,RunT L tb trs tr0 cls r/\Post cls r then Classical.choose h else Classical.choose (hex cls))
  by_cases hh:∃ r,RunT L tb trs tr0 cls r/\Post cls r
  ·rw[dif_pos hh];exact (Classical.choose_spec hh).2
  ·rw[dif_neg hh];exact Classical.choose_spec (hex cls)
end
end Go.Exo
end

noncomputable section
namespace Go.Exo
structure Un where
 pl:List (Option Nat)
 xs:List (Option X)
def setO {α:Type}:List (Option α)->Nat->α->List (Option α)
 |[],_,_=>[]
 |_::r,0,a=>some a::r
 |x::r,n+1,a=>x::setO r n a
def nones {α:Type}:Nat->List (Option α)
 |0=>[]
 |n+1=>none::nones n
def sZ {α:Type}:List (Option α)->Option (List α)
 |[]=>some []
 |some a::r=>(match sZ r with|some l=>some (a::l)|none=>none)
 |none::_=>none
mutual
def uniV (L:Nat):V->V->Un->Un
 |.x (.var _ j k),v,s=>(match toXk k v with|some t=>{ s with xs:=setO s.xs j t }|none=>s)
 |.lst l (.var _ j _),.lst l' t,s=>{ pl:=setO s.pl (Nat.sub l (Nat.succ L)) l',xs:=setO s.xs j t }
 |.ptr l _,.ptr l' _,s=>cond (Nat.ble (Nat.succ L) l) { s with pl:=setO s.pl (Nat.sub l (Nat.succ L)) l' } s
 |.slice l _ _ _ _,.slice l' _ _ _ _,s=>cond (Nat.ble (Nat.succ L) l) { s with pl:=setO s.pl (Nat.sub l (Nat.succ L)) l' } s
 |.agg a,.agg b,s=>uniL L a b s
 |.tup a,.tup b,s=>uniL L a b s
 |.iface _ v,.iface _ v',s=>uniV L v v' s
 |.func _ a b,.func _ a' b',s=>uniL L b b' (uniL L a a' s)
 |_,_,s=>s
def uniL (L:Nat):List V->List V->Un->Un
 |a::r,b::t,s=>uniL L r t (uniV L a b s)
 |_,_,s=>s
end
def uniBs (L:Nat)(H:T AObj):List Bx->Nat->Un->Un
 |[],_,s=>s
 |b::r,i,s=>uniBs L H r (Nat.succ i) (match s.pl[i]? with
  |some (some l)=>(match b with
   |.cells _ cs _ _=>(match getH H l with|.cells vs len _ _ _ _ _=>uniL L cs (vs.range .bad len 0) s|_=>s)
   |.own _=>s)
  |_=>s)
def plR (L nb:Nat)(π:List Nat)(nx l:Nat):Nat:=
 cond (Nat.ble (Nat.succ L) l) (cond (Nat.ble (Nat.succ (Nat.sub l (Nat.succ L))) nb) (π.getD (Nat.sub l (Nat.succ L)) 0) (Nat.add (Nat.succ nx) (Nat.sub (Nat.sub l (Nat.succ L)) nb))) l
section
variable (L nb:Nat)(π:List Nat)(nx fi:Nat)(τ:X)
mutual
def kD:V->V
 |.x (.var _ j k)=>.x (.app L (Nat.add fi j) τ k)
 |.lst l (.var _ j k)=>.lst (plR L nb π nx l) (.app L (Nat.add fi j) τ k)
 |.ptr l o=>.ptr (plR L nb π nx l) o
 |.slice l o n c e=>.slice (plR L nb π nx l) o n c e
 |.agg cs=>.agg (iZ cs)
 |.tup cs=>.tup (iZ cs)
 |.iface t v=>.iface t (kD v)
 |.func f a b=>.func f (iZ a) (iZ b)
 |v=>v
def iZ:List V->List V
 |[]=>[]
 |v::r=>kD v::iZ r
end
def kE:Bx->AObj
 |.cells el cs f r=>.cells (T.ofK .bad (iZ L nb π nx fi τ cs) 0 .e id) cs.length el 0 0 f r
 |.own e=>.own e
def eY:List Bz->Nat->T AObj->T AObj
 |[],_,H=>H
 |.set b::r,i,H=>eY r (Nat.succ i) (put .no H (plR L nb π nx (Nat.add (Nat.succ L) i)) (kE L nb π nx fi τ b))
 |.gone::r,i,H=>eY r (Nat.succ i) (put .no H (plR L nb π nx (Nat.add (Nat.succ L) i)) .no)
 |.same::r,i,H=>eY r (Nat.succ i) H
end
def isSetZ:Bz->Bool|.set _=>true|_=>false
def oH (L:Nat)(zs:List Bz)(l:Nat):Bool:=match zs[Nat.sub l (Nat.succ L)]? with|some z=>isSetZ z|none=>false
mutual
def patB (L nk:Nat)(zs:List Bz):V->Bool
 |.x (.var l j _)=>Nat.beq l L&&Nat.ble (Nat.succ j) nk
 |.lst l (.var l2 j _)=>Nat.ble (Nat.succ L) l&&oH L zs l&&Nat.beq l2 L&&Nat.ble (Nat.succ j) nk
 |.ptr l _=>cond (Nat.ble (Nat.succ L) l) (oH L zs l) (Nat.ble (Nat.succ l) L)
 |.slice l _ _ _ _=>Nat.ble (Nat.succ L) l&&oH L zs l
 |.agg cs=>patL L nk zs cs
 |.tup cs=>patL L nk zs cs
 |.iface _ v=>patB L nk zs v
 |.func (.func _) a b=>patL L nk zs a&&patL L nk zs b
 |.junk=>true
 |.x _|.lst _ _|.func _ _ _=>false
 |v=>v.fine
def patL (L nk:Nat)(zs:List Bz):List V->Bool
 |[]=>true
 |v::r=>patB L nk zs v&&patL L nk zs r
end
def wfZ (L nk:Nat)(zs:List Bz):List Bx->List Bz->Bool
 |[],[]=>true
 |[],.set b::r=>!b.ro&&patL L nk zs b.vs&&wfZ L nk zs [] r
 |[],_::_=>false
 |b::bs,.same::r=>b.ro&&wfZ L nk zs bs r
 |b::bs,.set c::r=>!b.ro && !c.ro&&patL L nk zs c.vs&&wfZ L nk zs bs r
 |b::bs,.gone::r=>!b.ro&&wfZ L nk zs bs r
 |_::_,[]=>false
def Ctr.wf (K:Ctr)(L:Nat):Bool:=wfZ L K.ks'.length K.box' K.box K.box'&&patB L K.ks'.length K.box' K.res&&ksIn L K.args K.bs K.ks 0
def needD [Dc](L:Nat)(pi:Option Nat)(τ:X):Bool:=match pi with|none=>true|some p=>(match Dc.dec (.app L p τ .bool) with|some true=>true|_=>false)
def aV [Dc](L:Nat)(K:Ctr)(fi:Nat)(pi:Option Nat):Hook:=fun g args H nx=>
 cond (Nat.beq g K.f) (match uniBs L H K.box 0 (uniL L K.args args ⟨nones K.box.length,nones K.ks.length⟩) with
  |⟨pl,xs⟩=>(match sZ pl,sZ xs with
   |some π,some σ=>cond (aZ L π σ K.args args&&cL L 0 K.bs K.ks π σ H (V.plsL args)&&needD L pi (X.ofL σ))
     (some (kD L K.box.length π nx fi (X.ofL σ) K.res,eY L K.box.length π nx fi (X.ofL σ) K.box' 0 H,Nat.add (Nat.succ nx) (Nat.sub K.box'.length K.box.length))) none
   |_,_=>none)) none
theorem vz {z:Bz}(h:isSetZ z=true):∃ b,z=.set b:=by cases z<;>first|exact⟨_,rfl⟩|cases h
theorem oI {L nk:Nat}{zs:List Bz}:∀ {bs:List Bx}{r:List Bz},wfZ L nk zs bs r=true->bs.length<=r.length/\∀ (i:Nat) z,r[i]? = some z->
  (∀ b,bs[i]? = some b->(b.ro=true/\z=.same)\/(b.ro=false/\((∃ c,z=.set c/\c.ro=false/\patL L nk zs c.vs=true)\/z=.gone)))/\(bs[i]? = none->∃ c,z=.set c/\c.ro=false/\patL L nk zs c.vs=true)
 |[],[],_=>⟨am _,fun i z h=>by simp at h⟩
 |[],.set c::r,h=>by
  simp only[wfZ,Bool.and_eq_true,Bool.not_eq_true'] at h;refine⟨Nat.zero_le _,fun i z hz=>⟨fun b hb=>by simp at hb,fun _=>?_⟩⟩;cases i with
  |zero=>simp at hz;subst hz;exact⟨c,rfl,h.1.1,h.1.2⟩
  |succ i=>exact ((oI h.2).2 i z (by simpa using hz)).2 (by simp)
 |[],.same::_,h=>by simp[wfZ] at h
 |[],.gone::_,h=>by simp[wfZ] at h
 |b::bs,.same::r,h=>by
  simp only[wfZ,Bool.and_eq_true] at h;obtain⟨h1,h2⟩:=oI h.2;refine⟨by simp;omega,fun i z hz=>?_⟩;cases i with
  |zero=>simp at hz;subst hz;exact⟨fun b' hb=>by simp at hb;subst hb;exact .inl ⟨h.1,rfl⟩,fun hn=>by simp at hn⟩
  |succ i=>simpa using h2 i z (by simpa using hz)
 |b::bs,.set c::r,h=>by
  simp only[wfZ,Bool.and_eq_true,Bool.not_eq_true'] at h;obtain⟨h1,h2⟩:=oI h.2;refine⟨by simp;omega,fun i z hz=>?_⟩;cases i with
  |zero=>simp at hz;subst hz;exact⟨fun b' hb=>by simp at hb;subst hb;exact .inr ⟨h.1.1.1,.inl ⟨c,rfl,h.1.1.2,h.1.2⟩⟩,fun hn=>by simp at hn⟩
  |succ i=>simpa using h2 i z (by simpa using hz)
 |b::bs,.gone::r,h=>by
  simp only[wfZ,Bool.and_eq_true,Bool.not_eq_true'] at h;obtain⟨h1,h2⟩:=oI h.2;refine⟨by simp;omega,fun i z hz=>?_⟩;cases i with
  |zero=>simp at hz;subst hz;exact⟨fun b' hb=>by simp at hb;subst hb;exact .inr ⟨h.1,.inr rfl⟩,fun hn=>by simp at hn⟩
  |succ i=>simpa using h2 i z (by simpa using hz)
 |_::_,[],h=>by simp[wfZ] at h
section
variable [Sx] [Dc] [Tb]{Ec E2:Env}{L nb:Nat}{π:List Nat}{nx fi:Nat}{τ:X}{zs:List Bz}{vl:Nat->Cl}{nk:Nat}
mutual
theorem oJ (hp:∃ p,Ec L=some p/\p.ob.vl=vl)(hfz:∀ b o v,Ec.fz b o v->E2.fz b o v)(hden:∀ j k,j<nk->(X.app L (Nat.add fi j) τ k).ok E2/\Cl.hd ((X.app L (Nat.add fi j) τ k).den E2)=vl j)
  (hpl:∀ l,L<l->oH L zs l=true->∀ q,Ec l=some q->∃ q',E2 (plR L nb π nx l)=some q'/\q'.blk=q.blk/\q'.base=q.base/\q'.size=q.size)(hgl:∀ l,l<L->∀ q,Ec l=some q->∃ q',E2 l=some q'/\q'.blk=q.blk/\q'.base=q.base) :
  ∀ {p:V}{x:Value},patB L nk zs p=true->VR Ec p x->VR E2 (kD L nb π nx fi τ p) x:=by
 intro p x h hv
 have hc:∀ {j k v},j<nk->CR Ec.fz k v (Cl.hd ((X.var L j k).den Ec))->CR E2.fz k v (Cl.hd ((X.app L (Nat.add fi j) τ k).den E2)):=fun {j k v} hj hcr=>by
  obtain⟨pp,hp1,hp2⟩:=hp;rw[(hden j k hj).2];have:(X.var L j k).den Ec=[vl j]:=by simp only[X.den,hp1,hp2]
  rw[this] at hcr;exact hcr.mono hfz
 cases p with
 |junk=>exact .junk x
 |x t=>
  cases t<;>first|(simp[patB] at h;done)|skip
  rename_i l j k;simp only[patB,Bool.and_eq_true] at h;have e:=aa h.1;have hj:=ab h.2;subst e;cases hv with
  |x _ _ h1 h2=>exact .x _ _ (hden j k hj).1 (hc hj h2)
 |lst l t=>
  cases t<;>first|(simp[patB] at h;done)|skip
  rename_i l2 j k;simp only[patB,Bool.and_eq_true] at h;obtain⟨⟨⟨h1,h2⟩,h3⟩,h4⟩:=h;have e:=aa h3;have hj:=ab h4;subst e;cases hv with
  |lst _ q _ e off len cap hq hok hkd hcr hb hcp=>
   obtain⟨q',g1,g2,g3,g4⟩:=hpl l (ab h1) h2 q hq;rw[<- g2];have hkd':k=.sl e:=hkd;subst hkd';exact .lst _ q' _ e off len cap g1 (hden j _ hj).1 rfl (by rw[g2];exact hc hj hcr) (by rw[g3];exact hb) (by rw[g3,g4];exact hcp)
 |ptr l o=>
  simp only[patB] at h;cases hv with
  |ptr _ off q hq=>
   cases hb:Nat.ble (Nat.succ L) l with
   |true=>
    rw[hb] at h;obtain⟨q',g1,g2,g3,_⟩:=hpl l (ab hb) h q hq;rw[<- g2,<- g3];exact .ptr _ _ q' g1
   |false=>
    rw[hb] at h;obtain⟨q',g1,g2,g3⟩:=hgl l (ab h) q hq;rw[<- g2,<- g3];have e:plR L nb π nx l=l:=by unfold plR;rw[hb];rfl
    show VR E2 (.ptr (plR L nb π nx l) o) _;rw[e];exact .ptr _ _ q' g1
 |slice l o n c e=>
  simp only[patB,Bool.and_eq_true] at h;cases hv with
  |slice _ off len cap esz q k hq a1 a2 a3=>
   obtain⟨q',g1,g2,g3,g4⟩:=hpl l (ab h.1) h.2 q hq;rw[<- g2,<- g3];exact .slice _ _ _ _ _ q' k g1 a1 (by omega) a3
 |agg cs=>cases hv with|agg _ xs h1=>exact .agg _ _ (hI hp hfz hden hpl hgl (by simpa[patB] using h) h1)
 |tup cs=>cases hv with|tup _ xs h1=>exact .tup _ _ (hI hp hfz hden hpl hgl (by simpa[patB] using h) h1)
 |iface t u=>cases hv with|iface _ _ x h1=>exact .iface _ _ _ (oJ hp hfz hden hpl hgl (by simpa[patB] using h) h1)
 |func fn a b=>
  cases fn with
  |func f=>
   simp only[patB,Bool.and_eq_true] at h;cases hv with
   |func _ _ _ _ fs cs hf h1 h2=>exact .func _ _ _ _ _ _ hf (hI hp hfz hden hpl hgl h.1 h1) (hI hp hfz hden hpl hgl h.2 h2)
  |_=>simp[patB] at h
 |_=>
  have h1:=VR.ofFine (E':=E2) (by simpa[patB] using h) hv;simpa[kD] using h1
theorem hI (hp:∃ p,Ec L=some p/\p.ob.vl=vl)(hfz:∀ b o v,Ec.fz b o v->E2.fz b o v)(hden:∀ j k,j<nk->(X.app L (Nat.add fi j) τ k).ok E2/\Cl.hd ((X.app L (Nat.add fi j) τ k).den E2)=vl j)
  (hpl:∀ l,L<l->oH L zs l=true->∀ q,Ec l=some q->∃ q',E2 (plR L nb π nx l)=some q'/\q'.blk=q.blk/\q'.base=q.base/\q'.size=q.size)(hgl:∀ l,l<L->∀ q,Ec l=some q->∃ q',E2 l=some q'/\q'.blk=q.blk/\q'.base=q.base) :
  ∀ {ps:List V}{xs:List Value},patL L nk zs ps=true->VRs Ec ps xs->VRs E2 (iZ L nb π nx fi τ ps) xs
 |[],_,_,h=>by cases h;exact .nil
 |p::ps,_,h,hv=>by
  simp only[patL,Bool.and_eq_true] at h;cases hv with
  |cons _ x _ xs h1 h2=>exact .cons _ _ _ _ (oJ hp hfz hden hpl hgl h.1 h1) (hI hp hfz hden hpl hgl h.2 h2)
end
theorem qH:∀ (l:List V)(i:Nat) v,l[i]? = some v->(iZ L nb π nx fi τ l)[i]? = some (kD L nb π nx fi τ v)
 |[],i,v,h=>by simp at h
 |u::r,0,v,h=>by simp at h;subst h;rfl
 |u::r,i+1,v,h=>by simp only[iZ,List.getElem?_cons_succ];exact qH r i v (by simpa using h)
theorem vB:∀ {l:List V},patL L nk zs l=true->∀ (i:Nat) v,l[i]? = some v->patB L nk zs v=true
 |[],_,i,v,h=>by simp at h
 |u::r,hp,i,v,h=>by
  simp only[patL,Bool.and_eq_true] at hp;cases i with
  |zero=>simp at h;subst h;exact hp.1
  |succ i=>exact vB hp.2 i v (by simpa using h)
theorem qI:∀ (r:List Bz)(i0:Nat)(H:T AObj),(∀ i j zi zj,r[i]? = some zi->r[j]? = some zj->zi≠.same->zj≠.same->plR L nb π nx (L+1+(i0+i))=plR L nb π nx (L+1+(i0+j))->i=j)->
  (∀ i b,r[i]? = some (.set b)->getH (eY L nb π nx fi τ r i0 H) (plR L nb π nx (L+1+(i0+i)))=kE L nb π nx fi τ b)/\
  (∀ i,r[i]? = some .gone->getH (eY L nb π nx fi τ r i0 H) (plR L nb π nx (L+1+(i0+i)))=.no)/\
  ∀ l,(∀ i z,r[i]? = some z->z≠.same->plR L nb π nx (L+1+(i0+i))≠l)->getH (eY L nb π nx fi τ r i0 H) l=getH H l
 |[],i0,H,_=>⟨fun i b h=>by simp at h,fun i h=>by simp at h,fun l _=>rfl⟩
 |z::r,i0,H,hinj=>by
  have hinj':∀ i j zi zj,r[i]? = some zi->r[j]? = some zj->zi≠.same->zj≠.same->plR L nb π nx (L+1+(i0+1+i))=plR L nb π nx (L+1+(i0+1+j))->i=j:=fun i j zi zj a b c d e=>by
   have:=hinj (i+1) (j+1) zi zj (by simpa using a) (by simpa using b) c d (by rw[show i0+(i+1)=i0+1+i by omega,show i0+(j+1)=i0+1+j by omega];exact e);omega
  have key:∀ (H1:T AObj),(∀ i b,r[i]? = some (.set b)->getH (eY L nb π nx fi τ r (i0+1) H1) (plR L nb π nx (L+1+(i0+(i+1))))=kE L nb π nx fi τ b)/\
    (∀ i,r[i]? = some .gone->getH (eY L nb π nx fi τ r (i0+1) H1) (plR L nb π nx (L+1+(i0+(i+1))))=.no)/\
    ∀ l,(∀ i z,r[i]? = some z->z≠.same->plR L nb π nx (L+1+(i0+(i+1)))≠l)->getH (eY L nb π nx fi τ r (i0+1) H1) l=getH H1 l:=fun H1=>by
   obtain⟨a,b,c⟩:=qI r (i0+1) H1 hinj';have e:∀ i,i0+(i+1)=i0+1+i:=fun i=>by omega
   exact⟨fun i bb h=>by rw[e i];exact a i bb h,fun i h=>by rw[e i];exact b i h,fun l h=>c l fun i zz h1 h2=>by rw[<- e i];exact h i zz h1 h2⟩
  have hz0:∀ (o:AObj),z≠.same->getH (eY L nb π nx fi τ r (i0+1) (put .no H (plR L nb π nx (L+1+i0)) o)) (plR L nb π nx (L+1+(i0+0)))=o:=fun o hz=>by
   show getH _ (plR L nb π nx (L+1+i0))=o;rw[(key _).2.2 _ fun i zz h1 h2 h3=>?_]
   ·rw[ar,if_pos rfl]
   ·have:=hinj (i+1) 0 zz z (by simpa using h1) rfl h2 hz (by rw[Nat.add_zero];exact h3)
    omega
  cases z with
  |same=>
   obtain⟨a,b,c⟩:=key H;refine⟨fun i bb h=>?_,fun i h=>?_,fun l h=>c l fun i zz h1 h2=>h (i+1) zz (by simpa using h1) h2⟩
   ·cases i with
    |zero=>simp at h
    |succ i=>exact a i bb (by simpa using h)
   ·cases i with
    |zero=>simp at h
    |succ i=>exact b i (by simpa using h)
  |set c=>
   obtain⟨a,b,d⟩:=key (put .no H (plR L nb π nx (L+1+i0)) (kE L nb π nx fi τ c));refine⟨fun i bb h=>?_,fun i h=>?_,fun l h=>?_⟩
   ·cases i with
    |zero=>simp at h;subst h;exact hz0 _ (fun e=>by cases e)
    |succ i=>exact a i bb (by simpa using h)
   ·cases i with
    |zero=>simp at h
    |succ i=>exact b i (by simpa using h)
   ·refine (d l fun i zz h1 h2=>h (i+1) zz (by simpa using h1) h2).trans ?_
    rw[ar,if_neg fun e=>h 0 _ rfl (fun e=>by cases e) (by rw[Nat.add_zero];exact e.symm)]
  |gone=>
   obtain⟨a,b,d⟩:=key (put .no H (plR L nb π nx (L+1+i0)) .no);refine⟨fun i bb h=>?_,fun i h=>?_,fun l h=>?_⟩
   ·cases i with
    |zero=>simp at h
    |succ i=>exact a i bb (by simpa using h)
   ·cases i with
    |zero=>exact hz0 _ (fun e=>by cases e)
    |succ i=>exact b i (by simpa using h)
   ·refine (d l fun i zz h1 h2=>h (i+1) zz (by simpa using h1) h2).trans ?_
    rw[ar,if_neg fun e=>h 0 _ rfl (fun e=>by cases e) (by rw[Nat.add_zero];exact e.symm)]
theorem instO_no (b:Bx):kE L nb π nx fi τ b≠.no/\aw (kE L nb π nx fi τ b)=0/\isRo (kE L nb π nx fi τ b)=b.ro:=by
 cases b with
 |cells _ _ _ _=>exact⟨(fun h=>by cases h),rfl,rfl⟩
 |own _=>exact⟨(fun h=>by cases h),rfl,rfl⟩
end
section
variable [Sx] [Dc] [Tb]{E:Env}{L j:Nat}{k:Kd}{π:List Nat}{σ:List X}
mutual
theorem zo:∀ {p v:V}{x:Value},p.has L j k=true->aC L π σ p v=true->VR E v x->∃ t,σ[j]? = some t/\t.ok E:=by
 intro p v x h hm hv;cases p with
 |x t=>
  simp only[V.has] at h;cases t<;>simp only[X.isVar] at h<;>first|(cases h;done)|skip
  rename_i l i k';simp only[Bool.and_eq_true] at h;have e:=aa h.1.2;subst e;simp only[aC,Bool.and_eq_true] at hm;cases hs:σ[i]? with
  |none=>rw[hs] at hm;cases hm.2
  |some t=>
   rw[hs] at hm;cases hx:toXk k' v with
   |none=>rw[hx] at hm;cases hm.2
   |some u=>
    rw[hx] at hm;have e:=X.beq_eq hm.2;subst e;exact⟨u,rfl,(mW hv hx).1⟩
 |lst l t=>
  simp only[V.has] at h;cases t<;>simp only[X.isVar] at h<;>first|(cases h;done)|skip
  rename_i l2 i k';simp only[Bool.and_eq_true] at h;have e:=aa h.1.2;subst e;cases v<;>first|(simp[aC,V.fine] at hm;done)|skip
  rename_i l' t;simp only[aC,Bool.and_eq_true] at hm;cases hs:σ[i]? with
  |none=>rw[hs] at hm;cases hm.2
  |some u=>
   rw[hs] at hm;have e:=X.beq_eq hm.2;subst e;cases hv with
   |lst _ q _ e off len cap hq hok _ _ _ _=>exact⟨t,rfl,hok⟩
 |agg a=>
  cases v<;>first|(simp[aC,V.fine] at hm;done)|skip
  ·simp only[aC,V.fine,V.eqB,Bool.and_eq_true] at hm;cases hm.2
  all_goals first|(simp only[aC,V.fine,V.eqB,Bool.and_eq_true] at hm;cases hm.2;done)|skip
  rename_i b;simp only[aC] at hm;cases hv with|agg _ xs hx=>exact dX (by simpa[V.has] using h) hm hx
 |tup a=>
  cases v<;>first|(simp only[aC,V.fine,V.eqB,Bool.and_eq_true] at hm;cases hm.2;done)|skip
  rename_i b;simp only[aC] at hm;cases hv with|tup _ xs hx=>exact dX (by simpa[V.has] using h) hm hx
 |iface t u=>
  cases v<;>first|(simp only[aC,V.fine,V.eqB,Bool.and_eq_true] at hm;cases hm.2;done)|skip
  rename_i t' u';simp only[aC,Bool.and_eq_true] at hm;cases hv with|iface _ _ x hx=>exact zo (by simpa[V.has] using h) hm.2 hx
 |func fn a b=>
  cases fn with
  |func f=>
   cases v<;>first|(simp only[aC,V.fine,V.eqB,Bool.and_eq_true] at hm;cases hm.2;done)|skip
   rename_i fn' a' b';cases fn'<;>first|(simp[aC,V.fine,V.eqB] at hm;done)|skip
   simp only[aC,Bool.and_eq_true] at hm;simp only[V.has,Bool.or_eq_true] at h;cases hv with
   |func _ _ _ _ fs cs hf a1 a2=>
    rcases h with h|h
    ·exact dX h hm.1.2 a1
    ·exact dX h hm.2 a2
  |_=>cases v<;>simp[aC,V.fine] at hm
 |_=>simp[V.has] at h
theorem dX:∀ {ps vs:List V}{xs:List Value},V.hasL L j k ps=true->aZ L π σ ps vs=true->VRs E vs xs->∃ t,σ[j]? = some t/\t.ok E
 |[],_,_,h,_,_=>by simp[V.hasL] at h
 |_::_,[],_,_,hm,_=>by simp[aZ] at hm
 |p::ps,v::vs,_,h,hm,hv=>by
  simp only[aZ,Bool.and_eq_true] at hm;simp only[V.hasL,Bool.or_eq_true] at h;cases hv with
  |cons _ x _ xs h1 h2=>
   rcases h with h|h
   ·exact zo h hm.1 h1
   ·exact dX h hm.2 h2
end
end
section
variable [Sx] [Dc] [Tb]{P:Program}{k:Nat}{G:World->Prop}
theorem ctr_hook {B:Bs}{E:Env}{H:T AObj}{nx:Nat}{w:World}(hG:Gd0 k G)(hk0:0<k)(hsz:P.globals.size<=k)(hgb:GB k G B){L:Nat}(hL:P.globals.size=L){fn:Nat->List Cl->Cl}(htb:Tb.tab=some (L,fn))
  {K:Ctr}{tb:Nat->List Cl->Cl}{Pre:List Cl->Prop}{F:List Cl->List Cl}(hS:K.Sound P k G tb Pre F)(hwf:K.wf L=true){fi:Nat}(hfn:∀ cls (j:Nat) c,(F cls)[j]? = some c->fn (fi+j) cls=c)
  (h:WR B E H nx w)(hgl:∀ g,g<P.globals.size->∃ s,E g=some ⟨g,0,s,undef,noOb,[]⟩){args:List V}{xs:List Value}(hxs:VRs E args xs){π:List Nat}{σ:List X}
  (hm:aZ L π σ K.args args=true)(hb:cL L 0 K.bs K.ks π σ H (V.plsL args)=true)(hpre:Pre (σ.map (X.c E))) :
  Calls P K.f xs.toArray w (dV B E H nx (kD L K.box.length π nx fi (X.ofL σ) K.res) (eY L K.box.length π nx fi (X.ofL σ) K.box' 0 H) (Nat.add (Nat.succ nx) (Nat.sub K.box'.length K.box.length))):=by
 subst hL;simp only[Ctr.wf,Bool.and_eq_true] at hwf;obtain⟨⟨hz,hpres⟩,hkin⟩:=hwf;obtain⟨hzl,hzg⟩:=oI hz
 have hbs:∀ (i:Nat) b,K.bs[i]? = some (some b)<->K.box[i]? = some b:=fun i b=>by
  unfold Ctr.bs;rw[List.getElem?_map];cases K.box[i]?<;>simp
 have hbs':∀ (i:Nat) b,K.bs'[i]? = some (some b)<->K.box'[i]? = some (.set b):=fun i b=>by
  unfold Ctr.bs';rw[List.getElem?_map];cases hz:K.box'[i]? with
  |none=>simp
  |some z=>cases z<;>simp[Bz.bx]
 have hgw:=hgb.at hG h;have hkw:=hG.size w hgw;have hb8:=hb;unfold cL at hb8;simp only[Bool.and_eq_true] at hb8;obtain⟨⟨⟨⟨c1,c2⟩,c3⟩,_⟩,c5⟩:=hb8;obtain⟨hπl,hbg⟩:=cB c1;have hnbl:K.bs.length=K.box.length:=by unfold Ctr.bs;rw[List.length_map]
 have hnbl':K.bs'.length=K.box'.length:=by unfold Ctr.bs';rw[List.length_map]
 have hkn:∀ l∈V.plsL args,∃ p,E l=some p:=hxs.at;have hat:=iC (heap:=fun b=>w.heap[b]?) h.objs hkn c1 c3
 have hbox:∀ (i:Nat) b,K.box[i]? = some b->∃ l q,π[i]? = some l/\E l=some q/\getH H l≠.no/\aw (getH H l)=0/\(isRo (getH H l)=true->b.ro=true)/\l<nx/\cy P.globals.size π σ b (getH H l)=true:=fun i b hi=>by
  obtain⟨l,q,h1,h2⟩:=hat i b ((hbs i b).2 hi);obtain⟨l',h3,h4⟩:=hbg i b ((hbs i b).2 hi);rw[h1] at h3;cases h3;obtain⟨a1,a2,a3,_⟩:=eV h4;exact⟨l,q,h1,h2,a1,a2,a3,Nat.lt_of_not_le (fun hh=>by rw[(h.fresh l hh).1] at h2;cases h2),h4⟩
 have hσ:∀ t∈σ,t.ok E:=fun t ht=>by
  obtain⟨j,hj⟩:=List.getElem?_of_mem ht
  have hjl:j<K.ks.length:=by
   have h1:=(ae.1 hj).1;have h2:=aa c5;omega
  have gen:∀ (ks:List Kd)(a:Nat),ksIn P.globals.size K.args K.bs ks a=true->∀ i k',ks[i]? = some k'->V.hasL P.globals.size (a+i) k' K.args=true\/fM P.globals.size (a+i) k' K.bs=true:=by
   intro ks;induction ks with
   |nil=>intro a _ i k' hi;simp at hi
   |cons kk r ih=>
    intro a hh i k' hi;simp only[ksIn,Bool.and_eq_true,Bool.or_eq_true] at hh;cases i with
    |zero=>simp at hi;subst hi;exact hh.1
    |succ i=>
     have:=ih (a+1) hh.2 i k' (by simpa using hi);rwa [show a+1+i=a+(i+1) by omega] at this
  have hg:=gen K.ks 0 hkin j _ (ah hjl);rw[Nat.zero_add] at hg
  have key:∃ u,σ[j]? = some u/\u.ok E:=by
   rcases hg with hg|hg
   ·exact dX hg hm hxs
   ·obtain⟨b,hbm,hh⟩:=fO hg
    obtain⟨i,hi⟩:=List.getElem?_of_mem hbm;obtain⟨l,q,h1,h2,_,_,_,_,h7⟩:=hbox i b ((hbs i b).1 hi);cases b with
    |own e=>simp[Bx.vs,V.hasL] at hh
    |cells el cs f r=>
     obtain⟨vs,ro,heq,_,k7⟩:=cM h7;have ho:=h.objs l q h2;rw[heq] at ho;obtain⟨cc,fr,m1,m2,m3,m4,m5⟩:=ho
     have hv:∃ ys,VRs E (vs.range .bad cs.length 0) ys:=by
      have:∀ n i0,i0+n<=cs.length->∃ ys,VRs E (vs.range .bad n i0) ys:=by
       intro n;induction n with
       |zero=>intro i0 _;exact⟨[],.nil⟩
       |succ n ih=>
        intro i0 hn;obtain⟨ys,hys⟩:=ih (i0+1) (by omega);obtain⟨y,_,hy⟩:=m5 i0 (by omega) (.inl rfl);exact⟨y::ys,.cons _ _ _ _ hy hys⟩
      exact this cs.length 0 (by omega)
     obtain⟨ys,hys⟩:=hv;exact dX hh k7 hys
  obtain⟨u,hu1,hu2⟩:=key;rw[hj] at hu1;cases hu1;exact hu2
 let old:Nat->Prop:=fun b=>b<w.heap.size/\∀ (i:Nat) b' l q,K.box[i]? = some b'->b'.ro=false->π[i]? = some l->E l=some q->q.blk≠b
 have hold:∀ b,old b->b<w.heap.size:=fun b hb=>hb.1
 have hmut:∀ (i:Nat) b l q,K.box[i]? = some b->b.ro=false->π[i]? = some l->E l=some q->¬ B.old q.blk:=fun i b l q h1 h2 h3 h4=>by
  obtain⟨l',q',g1,g2,g3,g4,g5,_⟩:=hbox i b h1;rw[h3] at g1;cases g1;rw[h4] at g2;cases g2;rcases (h.own l q h4).2 with g|g|g
  ·exact absurd g g3
  ·have:=g5 g;rw[h2] at this;cases this
  ·exact g
 have holdB:∀ b,B.old b->old b:=fun b hb=>⟨h.lt_old hb,fun i b' l q h1 h2 h3 h4 e=>hmut i b' l q h1 h2 h3 h4 (e ▸ hb)⟩
 have hcan:=oG (tb:=tb) h hgl (by omega) (by omega) hkn hb hσ old hold fun i b l q h1 h2 h3 h4 ho=>ho.2 i b l q ((hbs i b).1 h1) h2 h3 h4 rfl
 have hargs:=hcan.vrs _ _ _ hm hxs;have hwts:=hcan.kinds _ _ hargs hkin;refine (hS w old hold (fzF E.fz) (π.map (plOf E)) (σ.map (X.c E)) xs hgw (fun i hi=>holdB i (hgb.1 i hi)) (fun p hp=>by obtain⟨l,_,rfl⟩:=List.mem_map.1 hp;exact mX) (by rw[List.length_map,<- hπl,hnbl]) hcan.wr hargs hwts hpre).mono ?_;rintro e w' ⟨x,φ',pls',hlt',he,hno',h01,h10,hext,hwr',hres,hwt',hln',hkp'⟩;obtain⟨cobjs,csep,cown,cdat⟩:=WR.parts0 hwr';have hφE:∀ b o v,E.fz b o v->φ' b o=some v:=fun b o v hv=>h01 b o v ((hcan.fz b o v).2 hv)
 have hφo:∀ b o v,φ' b o=some v->old b->E.fz b o v:=fun b o v hv hb=>(hcan.fz b o v).1 (h10 b o v hv hb)
 generalize hcls:σ.map (X.c E)=cls at *;generalize hr:F cls=r at *;generalize hEc:ax P (ghOf φ' r tb) pls'=Ec at *;have hEcL:Ec P.globals.size=some ⟨0,0,0,undef,ghOf φ' r tb,[]⟩:=by rw[<- hEc];exact bj
 let E2:Env:=fun l=>if l=nx then some ⟨0,0,0,undef,{ noOb with fz:=φ' },[]⟩ else if nx<l/\l<=nx+(K.box'.length-K.box.length) then pls'[K.box.length+(l-nx-1)]? else E l
 have hE2lo:∀ l,l<nx->E2 l=E l:=fun l hl=>by simp only[E2];rw[if_neg (by omega),if_neg (by omega)]
 have hE2nx:E2 nx=some ⟨0,0,0,undef,{ noOb with fz:=φ' },[]⟩:=by simp only[E2,if_true]
 have hE2hi:∀ i,K.box.length<=i->i<K.box'.length->E2 (nx+1+(i-K.box.length))=pls'[i]? := fun i h1 h2=>by
  simp only[E2];rw[if_neg (by omega),if_pos (by omega)];congr 1;omega
 have hEn:∀ l,nx<=l->E l=none:=fun l hl=>(h.fresh l hl).1
 have hlt:∀ l p,E l=some p->l<nx:=fun l p hl=>Nat.lt_of_not_le fun hh=>by rw[hEn l hh] at hl;cases hl
 have hle:E.le E2:=fun l p hl=>by rw[hE2lo l (hlt l p hl)];exact hl
 have hE2inv:∀ l p,E2 l=some p->(l=nx/\p=⟨0,0,0,undef,{ noOb with fz:=φ' },[]⟩)\/(∃ i,K.box.length<=i/\i<K.box'.length/\l=nx+1+(i-K.box.length)/\pls'[i]? = some p)\/E l=some p:=fun l p hl=>by
  simp only[E2] at hl;split at hl
  ·cases hl;exact .inl ⟨by assumption,rfl⟩
  ·split at hl
   ·rename_i h1 h2
    exact .inr (.inl ⟨K.box.length+(l-nx-1),by omega,by omega,by omega,hl⟩)
   ·exact .inr (.inr hl)
 have hE2none:∀ l,nx+1+(K.box'.length-K.box.length)<=l->E2 l=none:=fun l hl=>by
  simp only[E2];rw[if_neg (by omega),if_neg (by omega)];exact hEn l (by omega)
 have hE2fz:∀ b o v,E2.fz b o v->φ' b o=some v:=fun b o v ⟨l,p,hl,hv⟩=>by
  rcases hE2inv l p hl with⟨_,rfl⟩|⟨i,_,_,_,hi⟩|hl
  ·exact hv
  ·rw[hno' p (List.mem_of_getElem? hi)] at hv;cases hv
  ·exact hφE b o v ⟨l,p,hl,hv⟩
 have hfz2:∀ b o v,φ' b o=some v->E2.fz b o v:=fun b o v hv=>⟨nx,_,hE2nx,hv⟩
 have hp1:∀ i l,i<K.box.length->π[i]? = some l->plR P.globals.size K.box.length π nx (P.globals.size+1+i)=l:=fun i l hi hl=>by
  unfold plR;have e1:Nat.ble (Nat.succ P.globals.size) (P.globals.size+1+i)=true:=an (by omega);have e2:Nat.sub (P.globals.size+1+i) (Nat.succ P.globals.size)=i:=by show P.globals.size+1+i-(P.globals.size+1)=i;omega
  have e3:Nat.ble (Nat.succ i) K.box.length=true:=an (by omega);rw[e1,e2,e3];simp[List.getD,hl]
 have hp2:∀ i,K.box.length<=i->plR P.globals.size K.box.length π nx (P.globals.size+1+i)=nx+1+(i-K.box.length):=fun i hi=>by
  unfold plR;have e1:Nat.ble (Nat.succ P.globals.size) (P.globals.size+1+i)=true:=an (by omega);have e2:Nat.sub (P.globals.size+1+i) (Nat.succ P.globals.size)=i:=by show P.globals.size+1+i-(P.globals.size+1)=i;omega
  have e3:Nat.ble (Nat.succ i) K.box.length=false:=by
   cases hq:Nat.ble (Nat.succ i) K.box.length with
   |false=>rfl
   |true=>have:=ab hq;omega
  rw[e1,e2,e3];rfl
 have hin:∀ i z,K.box'[i]? = some z->i<K.box.length->∃ b l q,K.box[i]? = some b/\π[i]? = some l/\E l=some q/\plR P.globals.size K.box.length π nx (P.globals.size+1+(0+i))=l/\l<nx/\getH H l≠.no/\aw (getH H l)=0/\(isRo (getH H l)=true->b.ro=true):=fun i z hz hi=>by
  obtain⟨l,q,g1,g2,g3,g4,g5,g6,_⟩:=hbox i _ (ah hi);exact⟨_,l,q,ah hi,g1,g2,by rw[Nat.zero_add];exact hp1 i l hi g1,g6,g3,g4,g5⟩
 have hinj:∀ i j zi zj,K.box'[i]? = some zi->K.box'[j]? = some zj->zi≠.same->zj≠.same->plR P.globals.size K.box.length π nx (P.globals.size+1+(0+i))=plR P.globals.size K.box.length π nx (P.globals.size+1+(0+j))->i=j:=fun i j zi zj h1 h2 _ _ heq=>by
  by_cases hi:i<K.box.length
  ·obtain⟨b,l,q,a1,a2,a3,a4,a5,_⟩:=hin i zi h1 hi
   by_cases hj:j<K.box.length
   ·obtain⟨b',l',q',b1,b2,b3,b4,b5,_⟩:=hin j zj h2 hj
    rw[a4,b4] at heq;subst heq;exact iB c2 i j _ _ l ((hbs i b).2 a1) ((hbs j b').2 b1) a2 b2
   ·rw[a4,Nat.zero_add,hp2 j (by omega)] at heq;omega
  ·by_cases hj:j<K.box.length
   ·obtain⟨b',l',q',b1,b2,b3,b4,b5,_⟩:=hin j zj h2 hj
    rw[b4,Nat.zero_add,hp2 i (by omega)] at heq;omega
   ·rw[Nat.zero_add,Nat.zero_add,hp2 i (by omega),hp2 j (by omega)] at heq;omega
 obtain⟨hH1,hH2,hH3⟩:=qI (fi:=fi) (τ:=X.ofL σ) K.box' 0 H hinj;generalize hHH:eY P.globals.size K.box.length π nx fi (X.ofL σ) K.box' 0 H=H2 at *
 have hset:∀ i c,K.box'[i]? = some (.set c)->c.ro=false/\patL P.globals.size K.ks'.length K.box' c.vs=true/\∃ p q',Ec (P.globals.size+1+i)=some p/\E2 (plR P.globals.size K.box.length π nx (P.globals.size+1+i))=some q'/\q'.blk=p.blk/\q'.base=p.base/\q'.size=p.size/\
   getH (df P.globals.size K.bs') (P.globals.size+1+i)=c.obj/\getH H2 (plR P.globals.size K.box.length π nx (P.globals.size+1+i))=kE P.globals.size K.box.length π nx fi (X.ofL σ) c:=fun i c hc=>by
  have hil:i<K.box'.length:=(ae.1 hc).1;have hg:=hzg i _ hc;have hpi:pls'[i]? = some pls'[i]:=ah (by omega);have hob:getH (df P.globals.size K.bs') (P.globals.size+1+i)=c.obj:=by rw[oF,(hbs' i c).2 hc];rfl
  have hEci:Ec (P.globals.size+1+i)=some pls'[i]:=by rw[<- hEc,cx];exact hpi
  have hgo:=hH1 i c hc;rw[Nat.zero_add] at hgo;by_cases hi:i<K.box.length
  ·obtain⟨b,l,q,a1,a2,a3,a4,a5,_⟩:=hin i _ hc hi
   rw[Nat.zero_add] at a4;have hrp:=hg.1 b a1;rcases hrp with⟨_,hh⟩|⟨_,⟨c',hh,h2,h3⟩|hh⟩
   ·cases hh
   ·cases hh
    have hk:=hkp' i c hi ((hbs' i c).2 hc);rw[hpi,List.getElem?_map,a2] at hk;simp only[Option.map_some,Option.some.injEq,eW a3] at hk;refine⟨h2,h3,pls'[i],q,hEci,by rw[a4,hE2lo l a5];exact a3,by rw[hk],by rw[hk],by rw[hk],hob,hgo⟩
   ·cases hh
  ·obtain⟨c',hh,h2,h3⟩:=hg.2 (List.getElem?_eq_none (by omega))
   cases hh;exact⟨h2,h3,pls'[i],pls'[i],hEci,by rw[hp2 i (by omega),hE2hi i (by omega) hil];exact hpi,rfl,rfl,rfl,hob,hgo⟩
 have hcase:∀ l p,E2 l=some p->getH H2 l=.no\/(∃ i c p',K.box'[i]? = some (.set c)/\l=plR P.globals.size K.box.length π nx (P.globals.size+1+i)/\Ec (P.globals.size+1+i)=some p'/\p.blk=p'.blk/\p.base=p'.base/\p.size=p'.size/\ getH (df P.globals.size K.bs') (P.globals.size+1+i)=c.obj/\getH H2 l=kE P.globals.size K.box.length π nx fi (X.ofL σ) c/\c.ro=false/\patL P.globals.size K.ks'.length K.box' c.vs=true)\/(E l=some p/\getH H2 l=getH H l/\old p.blk):=fun l p hl=>by
  by_cases hex:∃ i z,K.box'[i]? = some z/\z≠.same/\plR P.globals.size K.box.length π nx (P.globals.size+1+(0+i))=l
  ·obtain⟨i,z,hz1,hz2,hz3⟩:=hex
   cases z with
   |same=>exact absurd rfl hz2
   |gone=>exact .inl (by rw[<- hz3];exact hH2 i hz1)
   |set c=>
    obtain⟨s1,s2,p',q',s3,s4,s5,s6,s7,s8,s9⟩:=hset i c hz1;rw[Nat.zero_add] at hz3;rw[hz3] at s4 s9;rw[hl] at s4;cases s4;exact .inr (.inl ⟨i,c,p',hz1,hz3.symm,s3,s5,s6,s7,s8,s9,s1,s2⟩)
  ·have hne:∀ i z,K.box'[i]? = some z->z≠.same->plR P.globals.size K.box.length π nx (P.globals.size+1+(0+i))≠l:=fun i z h1 h2 h3=>hex ⟨i,z,h1,h2,h3⟩
   have hg:=hH3 l hne;rcases hE2inv l p hl with⟨rfl,_⟩|⟨i,a1,a2,rfl,a4⟩|hEl
   ·exact .inl (by rw[hg];exact (h.fresh _ (am _)).2)
   ·exfalso
    obtain⟨c',hh,_,_⟩:=(hzg i _ (ah a2)).2 (List.getElem?_eq_none (by omega));exact hne i _ (ah a2) (by rw[hh];intro e;cases e) (by rw[Nat.zero_add];exact hp2 i a1)
   ·by_cases hn:getH H l=.no
    ·exact .inl (hg.trans hn)
    ·refine .inr (.inr ⟨hEl,hg,(h.own l p hEl).1,fun i b' l' q h1 h2 h3 h4 hblk=>?_⟩)
     have hi:i<K.box.length:=(ae.1 h1).1;obtain⟨l'',q'',g1,g2,g3,g4,g5,g6,_⟩:=hbox i b' h1;rw[h3] at g1;cases g1
     have hll:l≠l':=fun e=>by
      subst e;have hz:=hzg i _ (ah (show i<K.box'.length by omega));rcases hz.1 b' h1 with⟨hh,_⟩|⟨_,hh⟩
      ·rw[h2] at hh;cases hh
      ·refine hne i _ (ah (show i<K.box'.length by omega)) (fun e=>?_) (by rw[Nat.zero_add];exact hp1 i l hi h3)
       rcases hh with⟨c,hh,_⟩|hh
       ·rw[e] at hh;cases hh
       ·rw[e] at hh;cases hh
     rcases h.sep l l' p q hll hEl h4 hblk.symm with (g|g|g)|g
     ·exact hn g
     ·exact g3 g
     ·rw[<- g.2.1] at g4;exact g.1 g4
     ·have:=g5 g.2;rw[h2] at this;cases this
 have hnoM:∀ i c p',K.box'[i]? = some (.set c)->Ec (P.globals.size+1+i)=some p'->getH (df P.globals.size K.bs') (P.globals.size+1+i)=c.obj->c.ro=false->¬ old p'.blk:=fun i c p' h1 h2 h3 h4=>by
  rcases (cown _ p' h2).2 with g|g|g
  ·rw[h3] at g;exact absurd g c.obj_cls.2.2.1
  ·rw[h3,c.obj_cls.2.1,h4] at g;cases g
  ·exact g
 obtain⟨pt,hpt,hptf⟩:=hgb.2.2.mono h.le _ fn htb;have hokT:(X.ofL σ).ok E:=X.ok_ofL.2 hσ
 have hvpl:∀ l,P.globals.size<l->oH P.globals.size K.box' l=true->∀ q,Ec l=some q->∃ q',E2 (plR P.globals.size K.box.length π nx l)=some q'/\q'.blk=q.blk/\q'.base=q.base/\q'.size=q.size:=fun l hl ho q hq=>by
  have e:P.globals.size+1+(l-(P.globals.size+1))=l:=by omega
  unfold oH at ho;have e2:Nat.sub l (Nat.succ P.globals.size)=l-(P.globals.size+1):=rfl;rw[e2] at ho;cases hz:K.box'[l-(P.globals.size+1)]? with
  |none=>rw[hz] at ho;cases ho
  |some z=>
   rw[hz] at ho;obtain⟨c,rfl⟩:=vz ho;obtain⟨_,_,p,q',s3,s4,s5,s6,s7,_⟩:=hset _ c hz;rw[e] at s3 s4;rw[hq] at s3;cases s3;exact⟨q',s4,s5,s6,s7⟩
 have hvgl:∀ l,l<P.globals.size->∀ q,Ec l=some q->∃ q',E2 l=some q'/\q'.blk=q.blk/\q'.base=q.base:=fun l hl q hq=>by
  rw[<- hEc,oC hl] at hq;cases hq;obtain⟨s,hs⟩:=hgl l hl;exact⟨_,hle _ _ hs,rfl,rfl⟩
 have hrl:r.length=K.ks'.length:=hwt'.length.symm
 have hden:∀ j k,j<K.ks'.length->(X.app P.globals.size (Nat.add fi j) (X.ofL σ) k).ok E2/\Cl.hd ((X.app P.globals.size (Nat.add fi j) (X.ofL σ) k).den E2)=(fun i=>r.getD i .no) j:=fun j k hj=>by
  refine⟨⟨⟨pt,hle _ _ hpt⟩,X.ok_mono hle hokT⟩,?_⟩;have hd:(X.ofL σ).den E2=cls:=by rw[X.den_mono hle hokT,X.den_ofL,hcls]
  simp only[X.den,hle _ _ hpt,hptf,hd,Cl.hd];have hj':r[j]? = some r[j]:=ah (by omega);have:=hfn cls j r[j] (by rw[hr];exact hj');show fn (fi+j) cls=_;rw[this];simp[List.getD,hj']
 have hVR:∀ {p:V}{x:Value},patB P.globals.size K.ks'.length K.box' p=true->VR Ec p x->VR E2 (kD P.globals.size K.box.length π nx fi (X.ofL σ) p) x:=
  oJ ⟨_,hEcL,rfl⟩ (fun b o v hv=>hfz2 b o v (by rw[<- hEc,bo hno'] at hv;exact hv)) hden hvpl hvgl
 refine .ret ⟨x,E2,he,hle,hVR hpres hres,?wr,by show nx<=nx+1+_;omega,fun l hl hEl hc=>⟨by rw[hE2lo l hl];exact hEl,hH3 l fun i z h1 h2 h3=>?keep⟩⟩
 case keep=>
  by_cases hi:i<K.box.length
  ·obtain⟨b,l',q,a1,a2,a3,a4,a5,_⟩:=hin i z h1 hi
   rw[a4] at h3;subst h3;rw[a3] at hEl;cases hEl
  ·rw[Nat.zero_add,hp2 i (by omega)] at h3;omega
 case wr=>
  have hokc:∀ l,aw (getH H l)≠0->getH H2 (aw (getH H l))=getH H (aw (getH H l))/\E2 (aw (getH H l))=none/\aw (getH H l)<nx:=fun l hl=>by
   obtain⟨cur,lim,mk,g1,g2,g3⟩:=h.cls l hl;have hlt:aw (getH H l)<nx:=Nat.lt_of_not_le fun hh=>by rw[(h.fresh _ hh).2] at g1;cases g1
   refine⟨hH3 _ fun i z h1 h2 h3=>?_,by rw[hE2lo _ hlt];exact g3,hlt⟩;by_cases hi:i<K.box.length
   ·obtain⟨b,l',q,a1,a2,a3,a4,a5,_⟩:=hin i z h1 hi
    rw[a4] at h3;rw[h3] at a3;rw[g3] at a3;cases a3
   ·rw[Nat.zero_add,hp2 i (by omega)] at h3;omega
  have hcells:∀ b o v,φ' b o=some v->w'.cell? ⟨b,o,none⟩=some v/\∀ l' p',Ec l'=some p'->p'.blk=b->p6 (getH (df P.globals.size K.bs') l') p' o:=fun b o v hv=>cdat _ _ hEcL b o v hv
  refine⟨fun l p hl=>?objs,fun l hl=>⟨hE2none l hl,?fresh⟩,fun l l' p p' hne hl hl' hblk=>?sep,fun l hc0=>?cls,fun l p hl=>?own,fun b hb=>(hext.old b (holdB b hb)).trans (h.old b hb),Nat.le_trans h.size hext.size,hext.os.trans h.os,hext.output.trans h.output,hext.tape.trans h.tape,h.le.trans hle,fun l p hl b o v hf=>?dat,h.dec,fun l p hl b o v hf hbo=>?fzo⟩
  case objs=>
   rcases hcase l p hl with hn|⟨i,c,p',s1,s2,s3,s4,s5,s6,s7,s8,s9,s10⟩|⟨s1,s2,s3⟩
   ·rw[hn];trivial
   ·have ho:=cobjs _ p' s3
    rw[s7] at ho;rw[s8,s4];cases c with
    |own e=>obtain⟨cc,g1,g2⟩:=ho;exact⟨cc,g1,by rw[s5,s6];exact g2⟩
    |cells el cs f ro=>
     obtain⟨cc,fr,g1,g2,g3,g4,g5⟩:=ho;refine⟨cc,fr,g1,by rw[s5,s6];exact g2,by rw[s6];exact g3,by rw[s5];exact g4,fun j hj _=>?_⟩;obtain⟨y,hy,hv⟩:=g5 j hj (.inl rfl);refine⟨y,by rw[s5];exact hy,?_⟩;have h2:cs[j]? = some cs[j]:=ah hj
     have h3:getC (T.ofK .bad cs 0 .e id) j=cs[j]:=by
      rw[bw,mK];show (putL V.bad _ 0 .e).get V.bad j=_;rw[bY];simp[h2]
     have h4:getC (T.ofK .bad (iZ P.globals.size K.box.length π nx fi (X.ofL σ) cs) 0 .e id) j=kD P.globals.size K.box.length π nx fi (X.ofL σ) cs[j]:=by
      rw[bw,mK];show (putL V.bad _ 0 .e).get V.bad j=_;rw[bY];simp[qH _ _ _ h2]
     rw[h4];rw[h3] at hv;exact hVR (vB s10 j _ h2) hv
   ·rw[s2,hext.old _ s3]
    exact (h.objs l p s1).trans hle fun pos ho=>ho.same fun hc0=>(hokc l hc0).1
  case fresh=>
   have hl':nx+1+(K.box'.length-K.box.length)<=l:=hl;rw[hH3 l fun i z h1 h2 h3=>?_]
   ·exact (h.fresh l (by omega)).2
   ·have hil:i<K.box'.length:=(ae.1 h1).1
    by_cases hi:i<K.box.length
    ·obtain⟨b,l2,q,a1,a2,a3,a4,a5,_⟩:=hin i z h1 hi
     rw[a4] at h3;omega
    ·rw[Nat.zero_add,hp2 i (by omega)] at h3;omega
  case sep=>
   rcases hcase l p hl with hn|⟨i,c,q,s1,s2,s3,s4,s5,s6,s7,s8,s9,s10⟩|⟨s1,s2,s3⟩
   ·exact .inl (.inl hn)
   ·rcases hcase l' p' hl' with hn'|⟨i',c',q',t1,t2,t3,t4,t5,t6,t7,t8,t9,t10⟩|⟨t1,t2,t3⟩
    ·exact .inl (.inr (.inl hn'))
    ·exfalso
     have hii:P.globals.size+1+i≠P.globals.size+1+i':=fun e=>by
      have:i=i':=by omega
      subst this;exact hne (s2.trans t2.symm)
     rcases csep _ _ q q' hii s3 t3 (by rw[<- s4,<- t4];exact hblk) with (g|g|g)|g
     ·rw[s7] at g;exact c.obj_cls.2.2.1 g
     ·rw[t7] at g;exact c'.obj_cls.2.2.1 g
     ·rw[s7] at g;exact g.1 c.obj_cls.1
     ·rw[s7,c.obj_cls.2.1,s9] at g;cases g.1
    ·exfalso
     exact hnoM i c q s1 s3 s7 s9 (by rw[<- s4,hblk];exact t3)
   ·rcases hcase l' p' hl' with hn'|⟨i',c',q',t1,t2,t3,t4,t5,t6,t7,t8,t9,t10⟩|⟨t1,t2,t3⟩
    ·exact .inl (.inr (.inl hn'))
    ·exfalso
     exact hnoM i' c' q' t1 t3 t7 t9 (by rw[<- t4,<- hblk];exact s3)
    ·rw[s2,t2];exact h.sep l l' p p' hne s1 t1 hblk
  case cls=>
   by_cases hex:∃ i z,K.box'[i]? = some z/\z≠.same/\plR P.globals.size K.box.length π nx (P.globals.size+1+(0+i))=l
   ·exfalso
    obtain⟨i,z,h1,h2,h3⟩:=hex;cases z with
    |same=>exact h2 rfl
    |gone=>have:=hH2 i h1;rw[h3] at this;rw[this] at hc0;exact hc0 rfl
    |set c=>have:=hH1 i c h1;rw[h3] at this;rw[this] at hc0;exact hc0 (instO_no c).2.1
   ·have e:=hH3 l fun i z h1 h2 h3=>hex ⟨i,z,h1,h2,h3⟩
    rw[e] at hc0 ⊢;obtain⟨cur,lim,mk,g1,g2,g3⟩:=h.cls l hc0;obtain⟨k1,k2,_⟩:=hokc l hc0;exact⟨cur,lim,mk,k1.trans g1,g2,k2⟩
  case own=>
   have h0:0<w'.heap.size:=Nat.lt_of_lt_of_le (by omega) hext.size
   have hb0:p.blk<w'.heap.size:=by
    rcases hE2inv l p hl with⟨_,rfl⟩|⟨i,a1,a2,_,a4⟩|hEl
    ·exact h0
    ·exact (cown (P.globals.size+1+i) p (by rw[<- hEc,cx];exact a4)).1
    ·exact Nat.lt_of_lt_of_le (h.own l p hEl).1 hext.size
   refine⟨hb0,?_⟩;rcases hcase l p hl with hn|⟨i,c,q,s1,s2,s3,s4,s5,s6,s7,s8,s9,s10⟩|⟨s1,s2,s3⟩
   ·exact .inl hn
   ·exact .inr (.inr fun hbo=>hnoM i c q s1 s3 s7 s9 (by rw[<- s4];exact holdB _ hbo))
   ·rw[s2];exact (h.own l p s1).2
  case dat=>
   have hv:=hE2fz b o v ⟨l,p,hl,hf⟩;obtain⟨g1,g2⟩:=hcells b o v hv;refine⟨g1,fun l' p' hl' hb'=>?_⟩;rcases hcase l' p' hl' with hn'|⟨i',c',q',t1,t2,t3,t4,t5,t6,t7,t8,t9,t10⟩|⟨t1,t2,t3⟩
   ·rw[hn'];exact .inl rfl
   ·have hm2:=g2 _ q' t3 (by rw[<- t4];exact hb')
    rw[t7] at hm2;rw[t8];cases c' with
    |own e=>show o<p'.base;rw[t5];exact hm2
    |cells el cs f ro=>
     rcases hm2 with hm2|hm2
     ·cases hm2
     ·exact .inr hm2
   ·rw[t2]
    obtain⟨l3,p3,h3,hf3⟩:=hφo b o v hv (by rw[<- hb'];exact t3);exact (h.dat l3 p3 h3 b o v hf3).2 l' p' t1 hb'
  case fzo=>
   have hv:=hE2fz b o v ⟨l,p,hl,hf⟩;obtain⟨l3,p3,h3,hf3⟩:=hφo b o v hv (holdB b hbo);exact h.fzo l3 p3 h3 b o v hf3 hbo
theorem aq.ctr {L:Nat}(hL:P.globals.size=L){K:Ctr}{tb:Nat->List Cl->Cl}{Pre:List Cl->Prop}{F:List Cl->List Cl}(hS:K.Sound P k G tb Pre F)(hwf:K.wf L=true){fn:Nat->List Cl->Cl}{fi:Nat}(hfn:∀ cls (j:Nat) c,(F cls)[j]? = some c->fn (fi+j) cls=c)
  (pi:Option Nat)(hpi:match pi with|none=>∀ cls,Pre cls|some p=>∀ cls,fn p cls=.bool true->Pre cls)(hG:Gd0 k G)(hk0:0<k)(hsz:P.globals.size<=k)(htb:Tb.tab=some (L,fn)):aq P k G (aV L K fi pi):=by
 intro B hgb E H nx w g args xs v H' nx' hwr hgl hxs hh;unfold aV at hh;cases hb:Nat.beq g K.f with
 |false=>rw[hb] at hh;cases hh
 |true=>
  rw[hb] at hh;have e:=aa hb;subst e;simp only[cond_true] at hh;split at hh
  ·rename_i π σ _ _
   cases hc:(aZ L π σ K.args args&&cL L 0 K.bs K.ks π σ H (V.plsL args)&&needD L pi (X.ofL σ)) with
   |false=>rw[hc] at hh;cases hh
   |true=>
    rw[hc] at hh;simp only[cond_true,Option.some.injEq,Prod.mk.injEq] at hh;obtain⟨rfl,rfl,rfl⟩:=hh;simp only[Bool.and_eq_true] at hc;refine ctr_hook hG hk0 hsz hgb hL htb hS hwf hfn hwr hgl hxs hc.1.1 hc.1.2 ?_;have hn:=hc.2;cases pi with
    |none=>exact hpi _
    |some p=>
     refine hpi _ ?_;simp only[needD] at hn;cases hd:Dc.dec (.app L p (X.ofL σ) .bool) with
     |none=>rw[hd] at hn;cases hn
     |some b=>
      cases b with
      |false=>rw[hd] at hn;cases hn
      |true=>
       obtain⟨_,h2⟩:=hwr.decE _ _ hd;obtain⟨p',hp,hpf⟩:=(hgb.2.2.mono hwr.le) L fn htb;simp only[X.den,hp,Cl.hd,X.den_ofL] at h2;rw[<- hpf];exact h2
  ·cases hh
end
end Go.Exo
end
