/-
  SX, part M: contracts: what a function finds, what it leaves; paths. Own text.
-/
import Derived.KernelRfl
import Derived.Test.YtihaakenfdkgnaaGreatDoorPart15
set_option linter.all false
noncomputable section
namespace Go.Exo
def ax (P:Program)(g:Gh)(pls:List Pl):Env:=fun l=>if l<P.globals.size then some ⟨l,0,0,undef,noOb,[]⟩ else if l=P.globals.size then some ⟨0,0,0,undef,g,[]⟩ else pls[l-(P.globals.size+1)]?
section
variable {P:Program}{g:Gh}{pls:List Pl}
theorem qD:∀ l,l<P.globals.size->∃ s,ax P g pls l=some ⟨l,0,s,undef,noOb,[]⟩:=fun l hl=>⟨0,by unfold ax;rw[if_pos hl]⟩
theorem oC {l:Nat}(hl:l<P.globals.size):ax P g pls l=some ⟨l,0,0,undef,noOb,[]⟩:=by unfold ax;rw[if_pos hl]
theorem bj:ax P g pls P.globals.size=some ⟨0,0,0,undef,g,[]⟩:=by unfold ax;rw[if_neg (by omega),if_pos rfl]
theorem cx (i:Nat):ax P g pls (P.globals.size+1+i)=pls[i]? := by
 unfold ax;rw[if_neg (by omega),if_neg (by omega)];congr 1;omega
theorem oD {l:Nat}{p:Pl}(h:ax P g pls l=some p):(l<P.globals.size/\p=⟨l,0,0,undef,noOb,[]⟩)\/(l=P.globals.size/\p=⟨0,0,0,undef,g,[]⟩)\/∃ i,l=P.globals.size+1+i/\pls[i]? = some p:=by
 unfold ax at h;split at h
 ·cases h;exact .inl ⟨by assumption,rfl⟩
 ·split at h
  ·cases h;exact .inr (.inl ⟨by assumption,rfl⟩)
  ·exact .inr (.inr ⟨l-(P.globals.size+1),by omega,h⟩)
theorem bo (hp:∀ p∈pls,p.ob=noOb){b o:Nat}{v:Value}:(ax P g pls).fz b o v<->g.fz b o=some v:=by
 constructor
 ·rintro⟨l,p,hl,hv⟩
  rcases oD hl with⟨_,rfl⟩|⟨_,rfl⟩|⟨i,_,hi⟩
  ·cases hv
  ·exact hv
  ·rw[hp p (List.mem_of_getElem? hi)] at hv;cases hv
 ·intro h;exact⟨_,_,bj,h⟩
end
def cy (L:Nat)(π:List Nat)(σ:List X)(b:Bx)(o:AObj):Bool:=
 match b with
 |.cells el cs f r=>(match o with
  |.cells vs len elem cls rel fz ro=>Nat.beq len cs.length&&Nat.beq elem el&&Nat.beq cls 0&&Nat.beq rel 0&&Nat.beq fz f&&(!ro || r)&&aZ L π σ cs (vs.range .bad len 0)
  |_=>false)
 |.own e=>(match o with|.own e'=>Nat.beq e e'|_=>false)
def cj (L:Nat)(π:List Nat)(σ:List X)(H:T AObj):List (Option Bx)->List Nat->Bool
 |[],[]=>true
 |some b::r,l::s=>cy L π σ b (getH H l)&&cj L π σ H r s
 |none::r,_::s=>cj L π σ H r s
 |_,_=>false
def qE:List (Option Bx)->List Nat->List Nat
 |some _::r,l::s=>l::qE r s
 |none::r,_::s=>qE r s
 |_,_=>[]
def sT:List Nat->Bool
 |[]=>true
 |x::r=>!memN x r&&sT r
def g9 (H:T AObj):List (Option Bx)->List Nat->List Nat->Bool
 |[],_,_=>true
 |some _::bs,l::ls,kn=>memN l kn&&g9 H bs ls (match getH H l with|.cells vs len _ _ _ _ _=>V.plsL (vs.range .bad len 0)++kn|_=>kn)
 |none::bs,_::ls,kn=>g9 H bs ls kn
 |_::_,[],_=>false
def kB (L:Nat):Nat->List (Option Bx)->List Nat->Nat->Bool
 |0,_,_,_=>true
 |n+1,some _::bs,l::ls,i=>Nat.beq l (Nat.add L (Nat.succ i))&&kB L n bs ls (Nat.succ i)
 |n+1,none::bs,_::ls,i=>kB L n bs ls (Nat.succ i)
 |_+1,_,_,_=>false
def fL (a:Nat):Nat->List Nat
 |0=>[]
 |n+1=>a::fL (Nat.succ a) n
def AItem.pl0:AItem->Bool
 |.code _|.inBlock _|.inLoop _|.inScope _=>true
 |_=>false
def zg:CallKind->Bool|.normal=>true|_=>false
def cL (L n:Nat)(bs:List (Option Bx))(ks:List Kd)(π:List Nat)(σ:List X)(H:T AObj)(kn:List Nat):Bool:=
 cj L π σ H bs π&&sT (qE bs π)&&g9 H bs π kn&&kB L n bs π 0&&Nat.beq σ.length ks.length
def vt (L f n:Nat)(C:Ct)(π:List Nat)(σ:List X)(o:Out):Option (List AItem):=
 match o with
 |.st .run todo c=>cond (Nat.beq c.fn f&&c.ds.isEmpty&&zg c.kind&&c.round.isNone&&c.cs.isEmpty&&Nat.beq c.sz C.sl.length&&aZ L π σ C.sl (c.tm.range au c.sz 0) && cL L n C.box C.ks π σ c.H (V.plsL (c.tm.range au c.sz 0)++fL (Nat.succ L) n)&&σ.all (X.at1 L)&&todo.all AItem.pl0) (some todo) none
 |_=>none
inductive Bz where
 |same
 |set (b:Bx)
 |gone
def Bz.bx:Bz->Option Bx
 |.set b=>some b
 |_=>none
structure Ctr where
 f:Nat
 args:List V
 box:List Bx
 ks:List Kd
 res:V
 box':List Bz
 ks':List Kd
def Ctr.bs (C:Ctr):List (Option Bx):=C.box.map some
def Ctr.bs' (C:Ctr):List (Option Bx):=C.box'.map Bz.bx
inductive To where
 |ret (π:List Nat)(σ:List X)
 |cut (j:Nat)(π:List Nat)(σ:List X)
mutual
def frzP [Sx]:V->V->T AObj->Nat->V×T AObj×Nat
 |.x _,.slice l o n c e,H,nx=>(match frzV (.slice l o n c e) H nx with|some (v,H')=>(v,H',Nat.succ nx)|none=>(.slice l o n c e,H,nx))
 |.agg ps,.agg vs,H,nx=>(match frzL ps vs H nx with|(vs',H',nx')=>(.agg vs',H',nx'))
 |.tup ps,.tup vs,H,nx=>(match frzL ps vs H nx with|(vs',H',nx')=>(.tup vs',H',nx'))
 |_,v,H,nx=>(v,H,nx)
def frzL [Sx]:List V->List V->T AObj->Nat->List V×T AObj×Nat
 |p::ps,v::vs,H,nx=>(match frzP p v H nx with|(v',H',nx')=>(match frzL ps vs H' nx' with|(vs',H2,nx2)=>(v'::vs',H2,nx2)))
 |_,vs,H,nx=>(vs,H,nx)
end
section
variable [Sx] [Dc] [Tb]{B:Bs}{w:World}
mutual
theorem zh:∀ {p v:V}{x:Value}{E:Env}{H:T AObj}{nx:Nat}{v':V}{H':T AObj}{nx':Nat},WR B E H nx w->VR E v x->frzP p v H nx=(v',H',nx')->∃ E',E.le E'/\VR E' v' x/\WR B E' H' nx' w:=by
 intro p v x E H nx v' H' nx' h hv hf;have same:(v,H,nx)=(v',H',nx')->∃ E',E.le E'/\VR E' v' x/\WR B E' H' nx' w:=fun e=>by cases e;exact⟨E,Env.le.refl E,hv,h⟩
 cases p with
 |x t=>
  cases v with
  |slice l o n c e=>
   simp only[frzP] at hf;cases hz:frzV (.slice l o n c e) H nx with
   |none=>rw[hz] at hf;exact same hf
   |some r=>
    obtain⟨v1,H1⟩:=r;rw[hz] at hf;cases hf;exact frzV_ok h hv hz
  |_=>exact same (by simpa[frzP] using hf)
 |agg ps=>
  cases v with
  |agg vs=>
   simp only[frzP] at hf;generalize hl:frzL ps vs H nx=r at hf;obtain⟨vs',H1,n1⟩:=r;cases hf;cases hv with
   |agg _ xs hx=>
    obtain⟨E',h1,h2,h3⟩:=sU h hx hl;exact⟨E',h1,.agg _ _ h2,h3⟩
  |_=>exact same (by simpa[frzP] using hf)
 |tup ps=>
  cases v with
  |tup vs=>
   simp only[frzP] at hf;generalize hl:frzL ps vs H nx=r at hf;obtain⟨vs',H1,n1⟩:=r;cases hf;cases hv with
   |tup _ xs hx=>
    obtain⟨E',h1,h2,h3⟩:=sU h hx hl;exact⟨E',h1,.tup _ _ h2,h3⟩
  |_=>exact same (by simpa[frzP] using hf)
 |_=>exact same (by simpa[frzP] using hf)
theorem sU:∀ {ps vs:List V}{xs:List Value}{E:Env}{H:T AObj}{nx:Nat}{vs':List V}{H':T AObj}{nx':Nat},WR B E H nx w->VRs E vs xs->frzL ps vs H nx=(vs',H',nx')->∃ E',E.le E'/\VRs E' vs' xs/\WR B E' H' nx' w
 |[],vs,_,E,_,_,_,_,_,h,hv,hf=>by simp only[frzL] at hf;cases hf;exact⟨E,Env.le.refl E,hv,h⟩
 |_::_,[],_,E,_,_,_,_,_,h,hv,hf=>by simp only[frzL] at hf;cases hf;exact⟨E,Env.le.refl E,hv,h⟩
 |p::ps,v::vs,_,E,H,nx,vs',H',nx',h,hv,hf=>by
  cases hv with
  |cons _ x _ xs h1 h2=>
   simp only[frzL] at hf;generalize hr:frzP p v H nx=r at hf;obtain⟨v1,H1,n1⟩:=r;simp only at hf;generalize hr2:frzL ps vs H1 n1=r2 at hf;obtain⟨vs1,H2,n2⟩:=r2;cases hf;obtain⟨E1,a1,a2,a3⟩:=zh h h1 hr;obtain⟨E2,b1,b2,b3⟩:=sU a3 (VRs.mono a1 h2) hr2;exact⟨E2,a1.trans b1,.cons _ _ _ _ (VR.mono b1 a2) b2,b3⟩
end
end
def retB [Sx](P:Program)(L:Nat)(C:Ctr)(π:List Nat)(σ:List X)(o:Out):Bool:=
 match og P C.f o with
 |some (v0,H0,nx0)=>match frzP C.res v0 H0 nx0 with|(v,H,_)=>aC L π σ C.res v&&cL L C.box.length C.bs' C.ks' π σ H (V.pls v++fL (Nat.succ L) C.box.length)&&σ.all (X.at1 L)
 |none=>false
def ToOk [Sx](P:Program)(L:Nat)(K:Ctr)(cuts:List Ct)(o:Out):To->Prop
 |.ret π σ=>retB P L K π σ o=true
 |.cut j π σ=>∃ C,cuts[j]? = some C/\vt L K.f K.box.length C π σ o=some C.todo
structure Pth where
 decs:List (X×Bool)
 n:Nat
 to:To
def hkN:Hook:=fun _ _ _ _=>none
def outS [Sx](P:Program)(hk:Dc->Hook)(L:Nat)(K:Ctr)(D:List (X×Bool))(n:Nat):Out:=
 letI:=dcOf D;cq P K.f K.args .normal [] (df L K.bs) (Nat.add (Nat.succ L) K.bs.length) (step P hkN (run P (hk (dcOf D)) n))
def outC [Sx](P:Program)(hk:Dc->Hook)(L f:Nat)(C:Ct)(D:List (X×Bool))(n:Nat):Out:=letI:=dcOf D;run P (hk (dcOf D)) n .run C.todo (C.ctx L f)
def bf:Out->List AItem|.st _ t _=>t|_=>[]
def Pth.okS [Sx](P:Program)(hk:Dc->Hook)(L:Nat)(K:Ctr)(cuts:List Ct)(p:Pth):Prop:=
 gW L p.decs=true/\ToOk P L K cuts (outS P hk L K p.decs p.n) p.to
def Pth.okC [Sx](P:Program)(hk:Dc->Hook)(L:Nat)(K:Ctr)(cuts:List Ct)(C:Ct)(p:Pth):Prop:=
 gW L p.decs=true/\ToOk P L K cuts (outC P hk L K.f C p.decs p.n) p.to
def X.isVar (L j:Nat)(k:Kd):X->Bool
 |.var l i k'=>Nat.beq l L&&Nat.beq i j&&k.beq k'
 |_=>false
def Bx.vs:Bx->List V
 |.cells _ cs _ _=>cs
 |.own _=>[]
mutual
def V.has (L j:Nat)(k:Kd):V->Bool
 |.x t=>t.isVar L j k
 |.lst _ t=>t.isVar L j k
 |.agg cs=>V.hasL L j k cs
 |.tup cs=>V.hasL L j k cs
 |.iface _ v=>v.has L j k
 |.func _ a b=>V.hasL L j k a || V.hasL L j k b
 |_=>false
def V.hasL (L j:Nat)(k:Kd):List V->Bool
 |[]=>false
 |v::r=>v.has L j k || V.hasL L j k r
end
def fM (L j:Nat)(k:Kd):List (Option Bx)->Bool
 |[]=>false
 |some b::r=>V.hasL L j k b.vs || fM L j k r
 |none::r=>fM L j k r
def ksIn (L:Nat)(sl:List V)(bx:List (Option Bx)):List Kd->Nat->Bool
 |[],_=>true
 |k::r,j=>(V.hasL L j k sl || fM L j k bx)&&ksIn L sl bx r (Nat.succ j)
def Ct.ok (C:Ct)(L:Nat):Bool:=ksIn L C.sl C.box C.ks 0
def gk:Nat->List (Option Bx)->Bool
 |0,_=>true
 |n+1,some _::r=>gk n r
 |_+1,_=>false
theorem vu:∀ {n:Nat}{bs:List (Option Bx)},gk n bs=true->∀ i,i<n->∃ b,bs[i]? = some (some b)
 |0,_,_,i,h=>by omega
 |n+1,[],h,_,_=>by simp[gk] at h
 |n+1,none::_,h,_,_=>by simp[gk] at h
 |n+1,some b::r,h,i,hi=>by
  cases i with
  |zero=>exact⟨b,rfl⟩
  |succ i=>obtain⟨c,hc⟩:=vu (show gk n r=true from h) i (by omega);exact⟨c,by simpa using hc⟩
theorem qG:∀ {n:Nat}{bs:List (Option Bx)},gk n bs=true->n<=bs.length
 |0,_,_=>Nat.zero_le _
 |n+1,[],h=>by simp[gk] at h
 |n+1,none::_,h=>by simp[gk] at h
 |n+1,some b::r,h=>by have:=qG (show gk n r=true from h);simp;omega
def Ctr.ok (C:Ctr)(L:Nat):Bool:=ksIn L [C.res] C.bs' C.ks' 0&&ksIn L C.args C.bs C.ks 0
section
variable [Sx] [Dc] [Tb]{E:Env}{p:Pl}{L j:Nat}{k:Kd}
mutual
theorem sV (hp:E L=some p):∀ {v:V}{x:Value},v.has L j k=true->VR E v x->Wt k (p.ob.vl j):=by
 intro v x h hv;cases v with
 |x t=>
  cases hv with
  |x _ _ h1 h2=>
  simp only[V.has] at h;cases t<;>simp only[X.isVar] at h<;>first|(cases h;done)|skip
  simp only[Bool.and_eq_true] at h;obtain⟨⟨a1,a2⟩,a3⟩:=h;have e1:=aa a1;have e2:=aa a2;have e3:=Kd.beq_eq a3;subst e1 e2 e3;have:=h2.wt;simp only[X.den,hp,Cl.hd,X.kd] at this;exact this
 |lst l t=>
  cases hv with
  |lst _ q _ e off len cap hq h1 h3 h2 hb hc=>
  simp only[V.has] at h;cases t<;>simp only[X.isVar] at h<;>first|(cases h;done)|skip
  simp only[Bool.and_eq_true] at h;obtain⟨⟨a1,a2⟩,a3⟩:=h;have e1:=aa a1;have e2:=aa a2;have e3:=Kd.beq_eq a3;subst e1 e2 e3;have:=h2.wt;simp only[X.kd] at h3;simp only[X.den,hp,Cl.hd] at this;rw[h3];exact this
 |agg cs=>cases hv with|agg _ xs h1=>exact iz hp (by simpa[V.has] using h) h1
 |tup cs=>cases hv with|tup _ xs h1=>exact iz hp (by simpa[V.has] using h) h1
 |iface t u=>cases hv with|iface _ _ x h1=>exact sV hp (by simpa[V.has] using h) h1
 |func fn a b=>
  cases hv with
  |func _ _ _ _ fs cs hf h1 h2=>
   simp only[V.has,Bool.or_eq_true] at h;rcases h with h|h
   ·exact iz hp h h1
   ·exact iz hp h h2
 |_=>simp[V.has] at h
theorem iz (hp:E L=some p):∀ {vs:List V}{xs:List Value},V.hasL L j k vs=true->VRs E vs xs->Wt k (p.ob.vl j)
 |[],_,h,_=>by simp[V.hasL] at h
 |v::r,_,h,hv=>by
  cases hv with
  |cons _ x _ xs h1 h2=>
   simp only[V.hasL,Bool.or_eq_true] at h;rcases h with h|h
   ·exact sV hp h h1
   ·exact iz hp h h2
end
end
theorem zl {x:Nat}:∀ {l:List Nat},memN x l=true->x∈l
 |[],h=>by cases h
 |y::r,h=>by
  simp only[memN] at h;cases hb:Nat.beq x y with
  |true=>rw[aa hb];exact aj ..
  |false=>rw[hb] at h;exact ai _ (zl h)
theorem zm {l:List Nat}{x:Nat}(hx:x∈l):memN x l=true:=by
 induction l with
 |nil=>cases hx
 |cons y r ih=>
  simp only[memN];cases hb:Nat.beq x y with
  |true=>rfl
  |false=>
   cases hx with
   |head=>rw[Nat.beq_refl] at hb;cases hb
   |tail _ hx=>exact ih hx
theorem oE {a n l:Nat}:l∈fL a n<->a<=l/\l<a+n:=by
 induction n generalizing a with
 |zero=>simp only[fL,List.not_mem_nil,false_iff];omega
 |succ n ih=>simp only[fL,List.mem_cons,ih];omega
theorem cB {L:Nat}{π:List Nat}{σ:List X}{H:T AObj}:∀ {bs:List (Option Bx)}{ls:List Nat},cj L π σ H bs ls=true->bs.length=ls.length/\∀ (i:Nat) b,bs[i]? = some (some b)->∃ l,ls[i]? = some l/\cy L π σ b (getH H l)=true
 |[],[],_=>⟨rfl,fun i b h=>by simp at h⟩
 |[],_::_,h=>by simp[cj] at h
 |some _::_,[],h=>by simp[cj] at h
 |none::_,[],h=>by simp[cj] at h
 |some b::bs,l::ls,h=>by
  simp only[cj,Bool.and_eq_true] at h;obtain⟨h1,h2⟩:=cB h.2;refine⟨by simp[h1],fun i c hc=>?_⟩;cases i with
  |zero=>simp at hc;subst hc;exact⟨l,rfl,h.1⟩
  |succ i=>simp at hc;obtain⟨k,g1,g2⟩:=h2 i c hc;exact⟨k,by simpa using g1,g2⟩
 |none::bs,l::ls,h=>by
  simp only[cj] at h;obtain⟨h1,h2⟩:=cB h;refine⟨by simp[h1],fun i c hc=>?_⟩;cases i with
  |zero=>simp at hc
  |succ i=>simp at hc;obtain⟨k,g1,g2⟩:=h2 i c hc;exact⟨k,by simpa using g1,g2⟩
theorem iA:∀ {bs:List (Option Bx)}{ls:List Nat}(i:Nat) b l,bs[i]? = some (some b)->ls[i]? = some l->l∈qE bs ls
 |[],_,i,b,l,h,_=>by simp at h
 |some _::_,[],i,b,l,_,h=>by simp at h
 |none::_,[],i,b,l,_,h=>by simp at h
 |some c::bs,k::ls,i,b,l,h1,h2=>by
  cases i with
  |zero=>simp at h2;subst h2;exact aj ..
  |succ i=>exact ai _ (iA i b l (by simpa using h1) (by simpa using h2))
 |none::bs,k::ls,i,b,l,h1,h2=>by
  cases i with
  |zero=>simp at h1
  |succ i=>exact iA (bs:=bs) (ls:=ls) i b l (by simpa using h1) (by simpa using h2)
theorem iB:∀ {bs:List (Option Bx)}{ls:List Nat},sT (qE bs ls)=true->∀ (i j:Nat) b c l,bs[i]? = some (some b)->bs[j]? = some (some c)->ls[i]? = some l->ls[j]? = some l->i=j
 |[],_,_,i,j,b,c,l,h,_,_,_=>by simp at h
 |some _::_,[],_,i,j,b,c,l,_,_,h,_=>by simp at h
 |none::_,[],_,i,j,b,c,l,_,_,h,_=>by simp at h
 |some d::bs,k::ls,hn,i,j,b,c,l,h1,h2,h3,h4=>by
  simp only[qE,sT,Bool.and_eq_true,Bool.not_eq_true'] at hn;cases i with
  |zero=>
   cases j with
   |zero=>rfl
   |succ j=>
    simp at h3;subst h3;have:=iA j c k (by simpa using h2) (by simpa using h4);rw[zm this] at hn;cases hn.1
  |succ i=>
   cases j with
   |zero=>
    simp at h4;subst h4;have:=iA i b k (by simpa using h1) (by simpa using h3);rw[zm this] at hn;cases hn.1
   |succ j=>rw[iB hn.2 i j b c l (by simpa using h1) (by simpa using h2) (by simpa using h3) (by simpa using h4)]
 |none::bs,k::ls,hn,i,j,b,c,l,h1,h2,h3,h4=>by
  cases i with
  |zero=>simp at h1
  |succ i=>
   cases j with
   |zero=>simp at h2
   |succ j=>rw[iB (bs:=bs) (ls:=ls) hn i j b c l (by simpa using h1) (by simpa using h2) (by simpa using h3) (by simpa using h4)]
theorem iC [Sx] [Dc] [Tb]{E:Env}{H:T AObj}{heap:Nat->Option Obj}(ho:∀ l p,E l=some p->OR E H l p (heap p.blk) (getH H l)){L:Nat}{π0:List Nat}{σ:List X}:∀ {bs:List (Option Bx)}{ls:List Nat}{kn:List Nat},(∀ l∈kn,∃ p,E l=some p)->cj L π0 σ H bs ls=true->g9 H bs ls kn=true->
  ∀ (i:Nat) b,bs[i]? = some (some b)->∃ l p,ls[i]? = some l/\E l=some p
 |[],_,_,_,_,_,i,b,h=>by simp at h
 |some _::_,[],_,_,_,hr,i,b,h=>by simp[g9] at hr
 |none::_,[],_,_,_,hr,i,b,h=>by simp[g9] at hr
 |some c::bs,k::ls,kn,hk,hm,hr,i,b,h=>by
  simp only[g9,Bool.and_eq_true] at hr;simp only[cj,Bool.and_eq_true] at hm;obtain⟨p,hp⟩:=hk k (zl hr.1);cases i with
  |zero=>exact⟨k,p,rfl,hp⟩
  |succ i=>
   refine iC (bs:=bs) (ls:=ls) ho ?_ hm.2 hr.2 i b (by simpa using h);intro l hl;have hob:=ho k p hp;cases hg:getH H k with
   |cells vs len elem cls rel fz ro=>
    rw[hg] at hl hob;rcases List.mem_append.1 hl with hl|hl
    ·have hc:cls=0:=by
      cases c with
      |cells el cs f r=>
       rw[hg] at hm;simp only[cy,Bool.and_eq_true] at hm;exact aa hm.1.1.1.1.1.2
      |own e=>rw[hg] at hm;simp[cy] at hm
     exact OR.at hob hc l hl
    ·exact hk l hl
   |_=>rw[hg] at hl;exact hk l hl
 |none::bs,k::ls,kn,hk,hm,hr,i,b,h=>by
  simp only[g9] at hr;simp only[cj] at hm;cases i with
  |zero=>simp at h
  |succ i=>exact iC (bs:=bs) (ls:=ls) ho hk hm hr i b (by simpa using h)
theorem kC {L:Nat}:∀ {n:Nat}{bs:List (Option Bx)}{ls:List Nat}{i0:Nat},kB L n bs ls i0=true->∀ i b,i<n->bs[i]? = some (some b)->ls[i]? = some (L+1+(i0+i))
 |0,_,_,_,_,i,b,h,_=>by omega
 |n+1,[],_,_,h,i,b,_,_=>by simp[kB] at h
 |n+1,some _::_,[],_,h,i,b,_,_=>by simp[kB] at h
 |n+1,none::_,[],_,h,i,b,_,_=>by simp[kB] at h
 |n+1,some c::bs,l::ls,i0,h,i,b,hi,hb=>by
  simp only[kB,Bool.and_eq_true] at h;cases i with
  |zero=>
   have:=aa h.1;simp only[List.getElem?_cons_zero,Option.some.injEq];rw[this];show L+(i0+1)=_;omega
  |succ i=>
   have:=kC h.2 i b (by omega) (by simpa using hb);simp only[List.getElem?_cons_succ];rw[this];congr 1;show L+1+(i0+1+i)=_;omega
 |n+1,none::bs,l::ls,i0,h,i,b,hi,hb=>by
  simp only[kB] at h;cases i with
  |zero=>simp at hb
  |succ i=>
   have:=kC h i b (by omega) (by simpa using hb);simp only[List.getElem?_cons_succ];rw[this];congr 1;show L+1+(i0+1+i)=_;omega
theorem cM {L:Nat}{π:List Nat}{σ:List X}{el:TypeId}{cs:List V}{f:Nat}{r:Bool}{o:AObj}(h:cy L π σ (.cells el cs f r) o=true):∃ vs ro,o=.cells vs cs.length el 0 0 f ro/\(ro=true->r=true)/\aZ L π σ cs (vs.range .bad cs.length 0)=true:=by
 cases o<;>first|(simp[cy] at h;done)|skip
 rename_i vs len elem cls rel fz ro;simp only[cy,Bool.and_eq_true] at h;obtain⟨⟨⟨⟨⟨⟨k1,k2⟩,k3⟩,k4⟩,k5⟩,k6⟩,k7⟩:=h;have j1:=aa k1;have j2:=aa k2;have j3:=aa k3;have j4:=aa k4;have j5:=aa k5;subst j1 j2 j3 j4 j5;exact⟨vs,ro,rfl,fun e=>by rw[e] at k6;simpa using k6,k7⟩
theorem jD {L:Nat}{π:List Nat}{σ:List X}{e:TypeId}{o:AObj}(h:cy L π σ (.own e) o=true):o=.own e:=by
 cases o<;>first|(simp[cy] at h;done)|skip
 simp only[cy] at h;rw[aa h]
theorem eV {L:Nat}{π:List Nat}{σ:List X}{b:Bx}{o:AObj}(h:cy L π σ b o=true):o≠.no/\aw o=0/\(isRo o=true->b.ro=true)/\a8 o=false:=by
 cases b with
 |cells el cs f r=>obtain⟨vs,ro,rfl,hr,_⟩:=cM h;exact⟨fun e=>(by cases e),rfl,hr,rfl⟩
 |own e=>rw[jD h];exact⟨fun e=>(by cases e),rfl,fun e=>(by cases e),rfl⟩
theorem Bx.obj_cls (b:Bx):aw b.obj=0/\isRo b.obj=b.ro/\b.obj≠.no/\a8 b.obj=false:=by
 cases b with
 |cells _ _ _ _=>exact⟨rfl,rfl,(fun h=>by cases h),rfl⟩
 |own _=>exact⟨rfl,rfl,(fun h=>by cases h),rfl⟩
theorem fN {L l:Nat}{bs:List (Option Bx)}:getH (df L bs) l=if L+1<=l then ((bs.map objO)[l-(L+1)]?).getD .no else .no:=by
 unfold df;rw[bw,rC];show (putL AObj.no _ (L+1) .e).get AObj.no l=_;rw[bY,gD]
theorem oF {L i:Nat}{bs:List (Option Bx)}:getH (df L bs) (L+1+i)=match bs[i]? with|some o=>objO o|none=>.no:=by
 rw[fN,if_pos (by omega)];have:L+1+i-(L+1)=i:=by omega
 rw[this,List.getElem?_map];cases bs[i]?<;>rfl
theorem zn {L l:Nat}{bs:List (Option Bx)}(h:l<=L):getH (df L bs) l=.no:=by rw[fN,if_neg (by omega)]
theorem jE {L:Nat}{π:List Nat}{σ:List X}:∀ {ps vs:List V},aZ L π σ ps vs=true->∀ (i:Nat) p v,ps[i]? = some p->vs[i]? = some v->aC L π σ p v=true
 |[],[],_,i,p,v,h,_=>by simp at h
 |[],_::_,h,_,_,_,_,_=>by simp[aZ] at h
 |_::_,[],h,_,_,_,_,_=>by simp[aZ] at h
 |a::r,b::s,h,i,p,v,h1,h2=>by
  simp only[aZ,Bool.and_eq_true] at h;cases i with
  |zero=>simp at h1 h2;subst h1 h2;exact h.1
  |succ i=>exact jE h.2 i p v (by simpa using h1) (by simpa using h2)
theorem V.hasL_mem {L j:Nat}{k:Kd}:∀ {vs:List V},V.hasL L j k vs=true->∃ v∈vs,v.has L j k=true
 |[],h=>by simp[V.hasL] at h
 |v::r,h=>by
  simp only[V.hasL,Bool.or_eq_true] at h;rcases h with h|h
  ·exact⟨v,aj ..,h⟩
  ·obtain⟨u,h1,h2⟩:=V.hasL_mem h;exact⟨u,ai _ h1,h2⟩
theorem fO {L j:Nat}{k:Kd}:∀ {bs:List (Option Bx)},fM L j k bs=true->∃ b,some b∈bs/\V.hasL L j k b.vs=true
 |[],h=>by simp[fM] at h
 |some b::r,h=>by
  simp only[fM,Bool.or_eq_true] at h;rcases h with h|h
  ·exact⟨b,aj ..,h⟩
  ·obtain⟨u,h1,h2⟩:=fO h;exact⟨u,ai _ h1,h2⟩
 |none::r,h=>by
  simp only[fM] at h;obtain⟨u,h1,h2⟩:=fO h;exact⟨u,ai _ h1,h2⟩
def Pth.allS [Sx](P:Program)(hk:Dc->Hook)(L:Nat)(K:Ctr)(cuts:List Ct):List Pth->Prop
 |[]=>True
 |p::r=>p.okS P hk L K cuts/\Pth.allS P hk L K cuts r
def Pth.allC [Sx](P:Program)(hk:Dc->Hook)(L:Nat)(K:Ctr)(cuts:List Ct)(C:Ct):List Pth->Prop
 |[]=>True
 |p::r=>p.okC P hk L K cuts C/\Pth.allC P hk L K cuts C r
section
variable [Sx]{P:Program}{hk:Dc->Hook}{L:Nat}{K:Ctr}{cuts:List Ct}{C:Ct}{D:List (X×Bool)}{n:Nat}{j:Nat}{π:List Nat}{σ:List X}
theorem Pth.okS_ret (h1:gW L D=true)(h2:retB P L K π σ (outS P hk L K D n)=true):Pth.okS P hk L K cuts ⟨D,n,.ret π σ⟩:=⟨h1,h2⟩
theorem Pth.okS_cut (C:Ct)(hC:cuts[j]? = some C)(h1:gW L D=true)(h2:vt L K.f K.box.length C π σ (outS P hk L K D n)=some C.todo):Pth.okS P hk L K cuts ⟨D,n,.cut j π σ⟩:=⟨h1,C,hC,h2⟩
theorem Pth.okC_ret (h1:gW L D=true)(h2:retB P L K π σ (outC P hk L K.f C D n)=true):Pth.okC P hk L K cuts C ⟨D,n,.ret π σ⟩:=⟨h1,h2⟩
theorem Pth.okC_cut (C':Ct)(hC:cuts[j]? = some C')(h1:gW L D=true)(h2:vt L K.f K.box.length C' π σ (outC P hk L K.f C D n)=some C'.todo):Pth.okC P hk L K cuts C ⟨D,n,.cut j π σ⟩:=⟨h1,C',hC,h2⟩
theorem Pth.rS (h1:gW L D=true:=by kernel_rfl)(h2:retB P L K π σ (outS P hk L K D n)=true:=by kernel_rfl):Pth.okS P hk L K cuts ⟨D,n,.ret π σ⟩:=⟨h1,h2⟩
theorem Pth.cS (C:Ct)(hC:cuts[j]? = some C)(h1:gW L D=true:=by kernel_rfl)(h2:vt L K.f K.box.length C π σ (outS P hk L K D n)=some C.todo:=by kernel_rfl):Pth.okS P hk L K cuts ⟨D,n,.cut j π σ⟩:=⟨h1,C,hC,h2⟩
theorem Pth.rC (h1:gW L D=true:=by kernel_rfl)(h2:retB P L K π σ (outC P hk L K.f C D n)=true:=by kernel_rfl):Pth.okC P hk L K cuts C ⟨D,n,.ret π σ⟩:=⟨h1,h2⟩
theorem Pth.cC (C':Ct)(hC:cuts[j]? = some C')(h1:gW L D=true:=by kernel_rfl)(h2:vt L K.f K.box.length C' π σ (outC P hk L K.f C D n)=some C'.todo:=by kernel_rfl):Pth.okC P hk L K cuts C ⟨D,n,.cut j π σ⟩:=⟨h1,C',hC,h2⟩
theorem Pth.allS_mem:∀ {ps:List Pth},Pth.allS P hk L K cuts ps->∀ p∈ps,p.okS P hk L K cuts
 |[],_,p,hp=>by cases hp
 |q::r,h,p,hp=>by
  cases hp with
  |head=>exact h.1
  |tail _ hp=>exact Pth.allS_mem h.2 p hp
theorem Pth.allC_mem:∀ {ps:List Pth},Pth.allC P hk L K cuts C ps->∀ p∈ps,p.okC P hk L K cuts C
 |[],_,p,hp=>by cases hp
 |q::r,h,p,hp=>by
  cases hp with
  |head=>exact h.1
  |tail _ hp=>exact Pth.allC_mem h.2 p hp
end
end Go.Exo
end

noncomputable section
namespace Go.Exo
def Ends (P:Program)(f:FuncId)(cs:List Frame)(fr:Frame)(w:World)(R:Ending->World->Prop):Prop:=
 ∃ e w' fr',R e w'/\Comes P (lone fr cs w) (lone fr' cs w') e/\fr'.fn=f/\fr'.leaving P w' e
theorem Ends.steps {P:Program}{f:FuncId}{cs:List Frame}{fr fr1:Frame}{w w1:World}{R:Ending->World->Prop}(h:Steps P (lone fr cs w) (lone fr1 cs w1))(he:Ends P f cs fr1 w1 R):Ends P f cs fr w R:=by
 obtain⟨e,w',fr',h1,h2,h3⟩:=he;exact⟨e,w',fr',h1,Comes.of_steps h h2,h3⟩
theorem Ends.mono {P:Program}{f:FuncId}{cs:List Frame}{fr:Frame}{w:World}{R R':Ending->World->Prop}(he:Ends P f cs fr w R)(h:∀ e w',R e w'->R' e w'):Ends P f cs fr w R':=by
 obtain⟨e,w',fr',h1,h2⟩:=he;exact⟨e,w',fr',h _ _ h1,h2⟩
structure ExtO (old:Nat->Prop)(w w':World):Prop where
 old:∀ b,old b->w'.heap[b]? = w.heap[b]?
 size:w.heap.size<=w'.heap.size
 os:w'.os=w.os
 output:w'.output=w.output
 tape:w'.tape=w.tape
theorem ExtO.refl (old:Nat->Prop)(w:World):ExtO old w w:=⟨fun _ _=>rfl,am _,rfl,rfl,rfl⟩
theorem ExtO.trans {old:Nat->Prop}{w w' w'':World}(h:ExtO old w w')(h':ExtO old w' w''):ExtO old w w'':=
 ⟨fun b hb=>(h'.old b hb).trans (h.old b hb),Nat.le_trans h.size h'.size,h'.os.trans h.os,h'.output.trans h.output,h'.tape.trans h.tape⟩
variable [Sx]
section
variable [Dc]{P:Program}{w0:Bs}
theorem fin_ends {cs:List Frame}{f:Nat}{fr:Frame}{w:World}{o:Out}(hfin:Fin P w0 cs o fr cs w){v:V}{H':T AObj}{nx':Nat}(h:og P f o=some (v,H',nx')) :
  Ends P f cs fr w fun e w'=>∃ x E',e=.returned x/\VR E' v x/\WR w0 E' H' nx' w'/\∀ g,g<P.globals.size->∃ s,E' g=some ⟨g,0,s,undef,noOb,[]⟩:=by
 unfold og at h;split at h
 ·rename_i todo c
  split at h
  ·rename_i h1 h2 h3
   cases hb:Nat.beq c.fn f with
   |false=>rw[hb] at h;cases h
   |true=>
    rw[hb] at h;simp only[cond_true] at h;rw[Nat.beq_eq] at hb;obtain⟨E',fr,cs',w',hst,hmr⟩:=hfin _ _ _ rfl;cases hr:resV P c.fn c.tm c.H with
    |val u=>
     rw[hr] at h;simp only[Option.some.injEq,Prod.mk.injEq] at h;obtain⟨rfl,rfl,rfl⟩:=h;obtain⟨fn,x,g1,g2,g3⟩:=sG hmr.wr hmr.rest hr;obtain⟨b,_,hf⟩:=hmr.frs;rw[h1] at hf;change cs'=cs at hf;subst hf;have hd:=hmr.defers;rw[h2] at hd;exact⟨.returned x,w',fr,⟨x,E',rfl,g3,hmr.wr,hmr.gl⟩,hst,by rw[hmr.fn,hb],⟨hmr.mode,hd,by rw[hmr.kind,h3],fn,by rw[hmr.fn];exact g1,g2⟩⟩
    |_=>rw[hr] at h;cases h
  ·cases h
 ·cases h
end
theorem VRs.ofTR {E:Env}{tm:T V}{xs:Array Value}(h:TR E tm xs):∀ (n i:Nat),i+n=xs.size->VRs E (tm.range au n i) (xs.toList.drop i)
 |0,i,hn=>by
  have:xs.toList.drop i=[]:=List.drop_eq_nil_of_le (by simp;omega);rw[this];exact .nil
 |n+1,i,hn=>by
  have hi:i<xs.size:=by omega
  have e:xs.toList.drop i=xs.getD i undef::xs.toList.drop (i+1):=by
   rw[List.drop_eq_getElem_cons (by simpa using hi)];congr 1;simp[Array.getD,hi]
  rw[e];exact .cons _ _ _ _ (h i) (VRs.ofTR h n (i+1) (by omega))
theorem TR.ofVRs {E:Env}{l:List V}{xs:Array Value}(h:VRs E l xs.toList):TR E (T.ofK au l 0 .e id) xs:=by
 intro i;rw[bw,getU_eq];show VR E ((putL au l 0 .e).get au i) _;rw[bY];simp only[Nat.zero_le,if_true,Nat.sub_zero];cases hl:l[i]? with
 |some v=>
  obtain⟨x,hx,hv⟩:=h.get i v hl;have hx':xs[i]? = some x:=by simpa using hx
  rw[Array.getD_eq_getD_getElem?,hx'];exact hv
 |none=>
  have hlen:=h.length;have:xs.size<=i:=by have:=List.getElem?_eq_none_iff.1 hl;simp at hlen;omega
  rw[Array.getD_eq_getD_getElem?,Array.getElem?_eq_none this,gD];exact .undef E
theorem aU.pl0 {E E':Env}:∀ {asq:List AItem}{t:List Item},(∀ i∈asq,i.pl0=true)->aU E asq t->aU E' asq t
 |[],_,_,h=>h
 |a::asq,t,hp,h=>by
  have h0:=hp a (aj ..);cases a<;>first|(simp[AItem.pl0] at h0;done)|skip
  all_goals
   obtain⟨i,r,e,h1,h2⟩:=h;exact⟨i,r,e,h1,aU.pl0 (fun i hi=>hp i (ai _ hi)) h2⟩
theorem RunR.pl0 {P:Program}{E:Env}{tm:T V}{fr:Frame}{t:List AItem}(hp:∀ i∈t,i.pl0=true)(h:RunR P E tm fr t):aU E t fr.todo/\TR E tm fr.tmps:=by
 unfold RunR at h;split at h
 ·have:=hp _ (aj ..);simp[AItem.pl0] at this
 ·exact h
theorem lK {P:Program}{g:Gh}{pls:List Pl}{t:X}(h:t.at1 P.globals.size=true):t.ok (ax P g pls):=by
 rw[X.ok_pls];intro l hl;have:=List.all_eq_true.1 h l hl;rw[<- aa this];exact⟨_,bj⟩
def plOf (E:Env)(l:Nat):Pl:=match E l with|some p=>{ p with ob:=noOb }|none=>⟨0,0,0,undef,noOb,[]⟩
theorem eW {E:Env}{l:Nat}{p:Pl}(h:E l=some p):plOf E l={ p with ob:=noOb }:=by unfold plOf;rw[h]
theorem mX {E:Env}{l:Nat}:(plOf E l).ob=noOb:=by unfold plOf;split<;>rfl
section
variable [Dc] [Tb]{P:Program}
structure Canon (P:Program)(E:Env)(tb:Nat->List Cl->Cl)(bs:List (Option Bx))(π:List Nat)(σ:List X)(ks:List Kd)(w:World)(old:Nat->Prop)(hold:∀ b,old b->b<w.heap.size):Prop where
 wr : @WR _ (dcOf []) ⟨w,old,hold,ax P (ghOf (fzF E.fz) (σ.map (X.c E)) tb) (π.map (plOf E))⟩ (ax P (ghOf (fzF E.fz) (σ.map (X.c E)) tb) (π.map (plOf E))) (df P.globals.size bs) (P.globals.size+1+bs.length) w
 vr:∀ p v x,aC P.globals.size π σ p v=true->VR E v x->VR (ax P (ghOf (fzF E.fz) (σ.map (X.c E)) tb) (π.map (plOf E))) p x
 vrs:∀ ps vs xs,aZ P.globals.size π σ ps vs=true->VRs E vs xs->VRs (ax P (ghOf (fzF E.fz) (σ.map (X.c E)) tb) (π.map (plOf E))) ps xs
 fz:∀ b o v,fzF E.fz b o=some v<->E.fz b o v
 kinds:∀ sl xs,VRs (ax P (ghOf (fzF E.fz) (σ.map (X.c E)) tb) (π.map (plOf E))) sl xs->ksIn P.globals.size sl bs ks 0=true->Wts ks (σ.map (X.c E))
 len:π.length=bs.length
theorem oG {B:Bs}{E:Env}{H:T AObj}{nx:Nat}{w:World}(h:WR B E H nx w)(hgl:∀ l,l<P.globals.size->∃ s,E l=some ⟨l,0,s,undef,noOb,[]⟩)(hglw:P.globals.size<=w.heap.size)(h0:0<w.heap.size){tb:Nat->List Cl->Cl}{n:Nat}{bs:List (Option Bx)}{ks:List Kd}{π:List Nat}{σ:List X}{kn:List Nat}
  (hkn:∀ l∈kn,∃ p,E l=some p)(hb:cL P.globals.size n bs ks π σ H kn=true)(_hσ:∀ t∈σ,t.ok E)(old:Nat->Prop)(hold:∀ b,old b->b<w.heap.size)
  (hnold:∀ (i:Nat)(b:Bx)(l:Nat)(q:Pl),bs[i]? = some (some b)->b.ro=false->π[i]? = some l->E l=some q->¬ old q.blk):Canon P E tb bs π σ ks w old hold:=by
 unfold cL at hb;simp only[Bool.and_eq_true] at hb;obtain⟨⟨⟨⟨b1,b2⟩,b3⟩,b4⟩,b5⟩:=hb;have hlen5:=aa b5;obtain⟨hbl,hbg⟩:=cB b1;have hat:=iC (heap:=fun b=>w.heap[b]?) h.objs hkn b1 b3;have hcell:∀ b o v,E.fz b o v->w.cell? ⟨b,o,none⟩=some v:=fun b o v ⟨l,p,hp,hv⟩=>(h.dat l p hp b o v hv).1
 have hu:∀ b o v v',E.fz b o v->E.fz b o v'->v=v':=fun b o v v' a b'=>by
  have e1:=hcell _ _ _ a;rw[hcell _ _ _ b'] at e1;cases e1;rfl
 have hfzF:∀ b o v,fzF E.fz b o=some v<->E.fz b o v:=fun b o v=>⟨fun h=>gZ h,fun h=>fzF_mk hu h⟩
 generalize hpls:π.map (plOf E)=pls
 have hpls0:∀ p∈pls,p.ob=noOb:=fun p hp=>by
  rw[<- hpls] at hp;obtain⟨l,_,rfl⟩:=List.mem_map.1 hp;exact mX
 generalize hcls:σ.map (X.c E)=cls;generalize hE':ax P (ghOf (fzF E.fz) cls tb) pls=E';have hE'L:E' P.globals.size=some ⟨0,0,0,undef,ghOf (fzF E.fz) cls tb,[]⟩:=by rw[<- hE'];exact bj
 have hfz':∀ b o v,E'.fz b o v<->E.fz b o v:=fun b o v=>by
  rw[<- hE',bo hpls0];exact hfzF b o v
 have hvar:∀ j t,σ[j]? = some t->∃ p,E' P.globals.size=some p/\p.ob.vl j=t.c E:=fun j t hj=>by
  refine⟨_,hE'L,?_⟩;show cls.getD j .no=_;rw[<- hcls];simp[List.getD,List.getElem?_map,hj]
 have hplB:∀ l l',plB P.globals.size π l l'=true->∀ q,E l'=some q->∃ q',E' l=some q'/\q'.blk=q.blk/\q'.base=q.base/\(P.globals.size<l->q'.size=q.size):=fun l l' hh q hq=>by
  unfold plB at hh;cases h1:Nat.ble (Nat.succ l) P.globals.size with
  |true=>
   rw[h1] at hh;have h2:=ab h1;have e:=aa hh;subst e;obtain⟨s,hs⟩:=hgl l h2;rw[hs] at hq;cases hq;exact⟨⟨l,0,0,undef,noOb,[]⟩,by rw[<- hE'];exact oC h2,rfl,rfl,fun hh=>by omega⟩
  |false=>
   rw[h1] at hh;simp only[cond_false] at hh;cases h2:Nat.beq l P.globals.size with
   |true=>rw[h2] at hh;cases hh
   |false=>
    rw[h2] at hh;simp only[cond_false] at hh;have g1:¬ l+1<=P.globals.size:=fun hx=>by rw[an hx] at h1;cases h1
    have g2:l≠P.globals.size:=fun e=>by rw[e,Nat.beq_refl] at h2;cases h2
    cases hk:π[Nat.sub l (Nat.succ P.globals.size)]? with
    |none=>rw[hk] at hh;cases hh
    |some kk=>
     rw[hk] at hh;have e:=aa hh;subst e;have e2:P.globals.size+1+(l-(P.globals.size+1))=l:=by omega
     refine⟨{ q with ob:=noOb },?_,rfl,rfl,fun _=>rfl⟩;rw[<- hE',<- e2,cx,<- hpls,List.getElem?_map];have hk':π[l-(P.globals.size+1)]? = some kk:=hk;rw[hk'];simp only[Option.map_some,eW hq]
 have hVR:∀ {p v:V}{x:Value},aC P.globals.size π σ p v=true->VR E v x->VR E' p x:=lJ hvar (fun b o v h=>(hfz' b o v).2 h) hplB;have hVRs:∀ {ps vs:List V}{xs:List Value},aZ P.globals.size π σ ps vs=true->VRs E vs xs->VRs E' ps xs:=dF hvar (fun b o v h=>(hfz' b o v).2 h) hplB
 have hbox:∀ (i:Nat)(b:Bx),bs[i]? = some (some b)->∃ l q,π[i]? = some l/\E l=some q/\pls[i]? = some { q with ob:=noOb }/\cy P.globals.size π σ b (getH H l)=true:=fun i b hb=>by
  obtain⟨l,hl,hm⟩:=hbg i b hb;obtain⟨l',q,hl',hq⟩:=hat i b hb;rw[hl] at hl';cases hl';exact⟨l,q,hl,hq,by rw[<- hpls,List.getElem?_map,hl];simp only[Option.map_some,eW hq],hm⟩
 have hbx:∀ (i:Nat)(b:Bx)(l:Nat)(q:Pl),bs[i]? = some (some b)->π[i]? = some l->E l=some q->cy P.globals.size π σ b (getH H l)=true->isRo b.obj=true\/¬ old q.blk:=fun i b l q h1 h2 h3 h4=>by
  cases hr:b.ro with
  |true=>exact .inl (by rw[b.obj_cls.2.1];exact hr)
  |false=>exact .inr (hnold i b l q h1 hr h2 h3)
 have hinv:∀ l p,E' l=some p->(getH (df P.globals.size bs) l=.no/\p.blk<w.heap.size/\(p.ob.fz=(if l=P.globals.size then fzF E.fz else fun _ _=>none)))\/
   ∃ (i:Nat)(b:Bx)(l':Nat)(q:Pl),l=P.globals.size+1+i/\bs[i]? = some (some b)/\π[i]? = some l'/\E l'=some q/\p={ q with ob:=noOb }/\cy P.globals.size π σ b (getH H l')=true/\getH (df P.globals.size bs) l=b.obj:=fun l p hl=>by
  rw[<- hE'] at hl;rcases oD hl with⟨h1,rfl⟩|⟨rfl,rfl⟩|⟨i,rfl,hi⟩
  ·exact .inl ⟨zn (by omega),by show l<_;omega,by rw[if_neg (by omega)];rfl⟩
  ·exact .inl ⟨zn (am _),h0,by rw[if_pos rfl];rfl⟩
  ·have hil:i<bs.length:=by
    have:=(ae.1 hi).1;rw[<- hpls,List.length_map] at this;omega
   have hbi:bs[i]? = some bs[i]:=ah hil;cases hc:bs[i] with
   |none=>
    rw[hc] at hbi;refine .inl ⟨by rw[oF,hbi];rfl,?_,?_⟩
    ·rw[<- hpls,List.getElem?_map] at hi
     cases hp:π[i]? with
     |none=>rw[hp] at hi;cases hi
     |some l=>
      rw[hp] at hi;simp only[Option.map_some,Option.some.injEq] at hi;rw[<- hi];unfold plOf;split
      ·rename_i q hq;exact (h.own l q hq).1
      ·exact h0
    ·rw[if_neg (by omega),hpls0 p (List.mem_of_getElem? hi)];rfl
   |some b=>
    rw[hc] at hbi;obtain⟨l',q,g1,g2,g3,g4⟩:=hbox i b hbi;rw[hi] at g3;cases g3;exact .inr ⟨i,b,l',q,rfl,hbi,g1,g2,rfl,g4,by rw[oF,hbi];rfl⟩
 refine⟨?wr,fun p v x=>by rw[hpls,hcls,hE'];exact hVR,fun ps vs xs=>by rw[hpls,hcls,hE'];exact hVRs,hfzF,?kinds,hbl.symm⟩
 case wr=>
  simp only[hpls,hcls,hE'];have wobjs:=h.objs;have wsep:=h.sep;have wown:=h.own;have wdat:=h.dat;clear h
  letI:=dcOf []
  refine⟨fun l p hl=>?objs,fun l hl=>⟨?f1,?f2⟩,fun l l' p p' hne hl hl' hb=>?sep,fun l hc0=>?cls,fun l p hl=>?own,fun _ _=>rfl,am _,rfl,rfl,rfl,Env.le.refl _,fun l p hl b o v hf=>⟨?d1,fun l' p' hl' hb'=>?d2⟩,fun t b hd=>(by rw[show Dc.dec t=gV [] t from rfl,lH] at hd;cases hd),fun l p hl b o v hf _=>⟨l,p,hl,hf⟩⟩
  case objs=>
   rcases hinv l p hl with⟨h4,_,_⟩|⟨i,b,l',q,rfl,g1,g2,g3,rfl,g5,g6⟩
   ·rw[h4];trivial
   ·rw[g6]
    have ho:=wobjs l' q g3;cases b with
    |own e=>
     rw[jD g5] at ho;exact ho
    |cells el cs fz r=>
     obtain⟨vs,ro,heq,hro,k7⟩:=cM g5;rw[heq] at ho;obtain⟨cc,fr',m1,m2,m3,m4,m5⟩:=ho;refine⟨cc,fr',m1,m2,m3,m4,fun i hi _=>?_⟩;obtain⟨x,hx,hv⟩:=m5 i hi (.inl rfl);refine⟨x,hx,?_⟩;have h1:=bP (α:=V) .bad vs cs.length 0 i hi;rw[Nat.zero_add] at h1;have h2:cs[i]? = some cs[i]:=ah hi
     have h3:getC (T.ofK .bad cs 0 .e id) i=cs[i]:=by
      rw[bw,mK];show (putL V.bad _ 0 .e).get V.bad i=_;rw[bY];simp[h2]
     rw[h3];exact hVR (jE k7 i _ _ h2 h1) hv
  case f1=>
   have hlen:pls.length=bs.length:=by rw[<- hpls,List.length_map,hbl]
   rw[<- hE'];unfold ax;rw[if_neg (by omega),if_neg (by omega)];exact List.getElem?_eq_none (by omega)
  case f2=>
   rw[fN,if_pos (by omega),List.getElem?_eq_none (by simp;omega)];rfl
  case sep=>
   rcases hinv l p hl with⟨h4,_,_⟩|⟨i,b,k,q,rfl,g1,g2,g3,rfl,g5,g6⟩
   ·exact .inl (.inl h4)
   ·rcases hinv l' p' hl' with⟨h4,_,_⟩|⟨i',b',k',q',rfl,g1',g2',g3',rfl,g5',g6'⟩
    ·exact .inl (.inr (.inl h4))
    ·obtain⟨a1,a2,a3,_⟩:=eV g5
     obtain⟨a1',a2',a3',_⟩:=eV g5'
     have hkk:k≠k':=fun e=>by
      subst e;have:=iB b2 i i' _ _ k g1 g1' g2 g2';omega
     rcases wsep k k' q q' hkk g3 g3' hb with (h|h|h)|h
     ·exact absurd h a1
     ·exact absurd h a1'
     ·exact absurd a2 h.1
     ·exact .inr ⟨by rw[g6,b.obj_cls.2.1];exact a3 h.1,by rw[g6',b'.obj_cls.2.1];exact a3' h.2⟩
  case cls=>
   exfalso;apply hc0;rw[fN];split
   ·cases hx:(bs.map objO)[l-(P.globals.size+1)]? with
    |none=>rfl
    |some o=>
     rw[List.getElem?_map] at hx;cases hy:bs[l-(P.globals.size+1)]? with
     |none=>rw[hy] at hx;cases hx
     |some b=>
      rw[hy] at hx;simp only[Option.map_some,Option.some.injEq] at hx;subst hx;cases b with
      |none=>rfl
      |some b=>exact b.obj_cls.1
   ·rfl
  case own=>
   rcases hinv l p hl with⟨h4,h3,_⟩|⟨i,b,k,q,rfl,g1,g2,g3,rfl,g5,g6⟩
   ·exact⟨h3,.inl h4⟩
   ·refine⟨(wown k q g3).1,?_⟩
    rw[g6];rcases hbx i b k q g1 g2 g3 g5 with hh|hh
    ·exact .inr (.inl hh)
    ·exact .inr (.inr hh)
  case d1=>exact hcell b o v ((hfz' b o v).1 ⟨l,p,hl,hf⟩)
  case d2=>
   obtain⟨l2,p2,h2,h3⟩:=(hfz' b o v).1 ⟨l,p,hl,hf⟩;rcases hinv l' p' hl' with⟨h4,_,_⟩|⟨i,bb,k,q,rfl,g1,g2,g3,rfl,g5,g6⟩
   ·rw[h4];exact .inl rfl
   ·have hm:=(wdat l2 p2 h2 b o v h3).2 k q g3 hb'
    cases bb with
    |own e=>
     rw[jD g5] at hm;rw[g6];exact hm
    |cells el cs fz r=>
     obtain⟨vs,ro,heq,hro,_⟩:=cM g5;rw[heq] at hm;rw[g6];rcases hm with hm|hm
     ·cases hm
     ·exact .inr (hro hm)
 case kinds=>
  intro sl xs hsl hC;rw[hpls,hcls,hE'] at hsl;rw[hcls]
  have key:∀ (j:Nat)(k:Kd),V.hasL P.globals.size j k sl=true\/fM P.globals.size j k bs=true->Wt k (cls.getD j .no):=fun j k hh=>by
   rcases hh with hh|hh
   ·exact iz hE'L hh hsl
   ·obtain⟨b,hb,hh⟩:=fO hh
    obtain⟨v,hv,hh2⟩:=V.hasL_mem hh;obtain⟨i,hi⟩:=List.getElem?_of_mem hb;obtain⟨i',hi'⟩:=List.getElem?_of_mem hv;obtain⟨l,q,g1,g2,_,g5⟩:=hbox i b hi;have ho:=h.objs l q g2;cases b with
    |own e=>cases hv
    |cells el cs fz r=>
     obtain⟨vs,ro,heq,hro,k7⟩:=cM g5;rw[heq] at ho;obtain⟨cc,fr',m1,m2,m3,m4,m5⟩:=ho;have hi2:cs[i']? = some v:=hi';have hlt:i'<cs.length:=(ae.1 hi2).1;obtain⟨x,hx,hvv⟩:=m5 i' hlt (.inl rfl);have h1:=bP (α:=V) .bad vs cs.length 0 i' hlt;rw[Nat.zero_add] at h1;exact sV hE'L hh2 (hVR (jE k7 i' _ _ hi2 h1) hvv)
  have hlen:cls.length=ks.length:=by rw[<- hcls,List.length_map];exact hlen5
  have gen:∀ (ks:List Kd)(j:Nat),ksIn P.globals.size sl bs ks j=true->j+ks.length=cls.length->Wts ks (cls.drop j):=by
   intro ks;induction ks with
   |nil=>intro j _ hj;rw[List.drop_eq_nil_of_le (by simp at hj;omega)];exact .nil
   |cons k r ih=>
    intro j h hj;simp only[List.length_cons] at hj;simp only[ksIn,Bool.and_eq_true,Bool.or_eq_true] at h;have hlt:j<cls.length:=by omega
    rw[List.drop_eq_getElem_cons hlt];refine .cons ?_ (ih (j+1) h.2 (by omega));have:=key j k h.1;simpa[List.getD,ah hlt] using this
  have:=gen ks 0 hC (by omega);simpa using this
end
theorem WR.withD {D:List (X×Bool)}{B:Bs}{E:Env}{H:T AObj}{nx:Nat}{w:World}(h : @WR _ (dcOf []) B E H nx w)(hd:∀ t b,gV D t=some b->t.ok B.env/\t.c B.env=.bool b) : @WR _ (dcOf D) B E H nx w:=by
 letI:=dcOf []
 exact @WR.mk _ (dcOf D) _ _ _ _ _ h.objs h.fresh h.sep h.cls h.own h.old h.size h.os h.output h.tape h.le h.dat hd h.fzo
theorem WR.parts0 {B:Bs}{E:Env}{H:T AObj}{nx:Nat}{w:World}(h : @WR _ (dcOf []) B E H nx w):(∀ l p,E l=some p->OR E H l p w.heap[p.blk]? (getH H l))/\
  (∀ l l' p p',l≠l'->E l=some p->E l'=some p'->p.blk=p'.blk->(getH H l=.no\/getH H l'=.no\/(aw (getH H l)≠0/\aw (getH H l)=aw (getH H l')/\p.base+cP (getH H l')=p'.base+cP (getH H l)))\/(isRo (getH H l)=true/\isRo (getH H l')=true))/\
  (∀ l p,E l=some p->p.blk<w.heap.size/\(getH H l=.no\/isRo (getH H l)=true\/¬ B.old p.blk))/\
  (∀ l p,E l=some p->∀ b o v,p.ob.fz b o=some v->w.cell? ⟨b,o,none⟩=some v/\∀ l' p',E l'=some p'->p'.blk=b->p6 (getH H l') p' o):=by
 letI:=dcOf []
 exact⟨h.objs,h.sep,h.own,h.dat⟩
structure At (P:Program)(old:Nat->Prop)(w0:World)(φ0:Nat->Nat->Option Value)(pls0:List Pl)(tb:Nat->List Cl->Cl)(K:Ctr)(C:Ct)(cls:List Cl)(fr:Frame)(w:World):Prop where
 ext:ExtO old w0 w
 lt:∀ b,old b->b<w.heap.size
 fn:fr.fn=K.f
 kind:fr.kind=.normal
 round:fr.roundOf=none
 defers:fr.defers=[]
 mode:fr.mode=.run
 size:fr.tmps.size=C.sl.length
 wt:Wts C.ks cls
 ex:∃ φ pls,(∀ p∈pls,p.ob=noOb)/\(∀ b o v,φ0 b o=some v->φ b o=some v)/\(∀ b o v,φ b o=some v->old b->φ0 b o=some v)/\
  @WR _ (dcOf []) ⟨w,old,lt,ax P (ghOf φ cls tb) pls⟩ (ax P (ghOf φ cls tb) pls) (C.H P.globals.size) (C.nx P.globals.size) w/\
  TR (ax P (ghOf φ cls tb) pls) C.tm fr.tmps/\aU (ax P (ghOf φ cls tb) pls) C.todo fr.todo/\(∀ i b,i<K.box.length->C.box[i]? = some (some b)->pls[i]? = pls0[i]?)/\pls.length=C.box.length
section
variable [Tb]{P:Program}{k:Nat}{G:World->Prop}
theorem vv {old:Nat->Prop}{w0 w:World}{φ0 φ:Nat->Nat->Option Value}{pls0 pls:List Pl}{tb:Nat->List Cl->Cl}{K:Ctr}{bs:List (Option Bx)}{cls:List Cl}{C:Ct}{π:List Nat}{σ:List X}{o:Out}{cs:List Frame}{fr:Frame}{D:List (X×Bool)}
  (hext:ExtO old w0 w)(hlt:∀ b,old b->b<w.heap.size)(hpl:∀ p∈pls,p.ob=noOb)(h01:∀ b o v,φ0 b o=some v->φ b o=some v)(h10:∀ b o v,φ b o=some v->old b->φ0 b o=some v)
  (hglw:P.globals.size<=w.heap.size)(hn:K.box.length<=pls.length)(hkp:∀ i b,i<K.box.length->bs[i]? = some (some b)->pls[i]? = pls0[i]?)(hsub:∀ i b,i<K.box.length->C.box[i]? = some (some b)->∃ b',bs[i]? = some (some b'))
  (hfin : @Fin _ (dcOf D) P ⟨w,old,hlt,ax P (ghOf φ cls tb) pls⟩ cs o fr cs w)(hC:C.ok P.globals.size=true)(hto:vt P.globals.size K.f K.box.length C π σ o=some C.todo) :
  ∃ fr' w',Steps P (lone fr cs w) (lone fr' cs w')/\At P old w0 φ0 pls0 tb K C (σ.map (X.c (ax P (ghOf φ cls tb) pls))) fr' w':=by
 letI:=dcOf D
 generalize hE:ax P (ghOf φ cls tb) pls=E at *;unfold vt at hto;split at hto
 case h_2=>cases hto
 rename_i todo c;generalize hb:(Nat.beq c.fn K.f&&c.ds.isEmpty&&zg c.kind&&c.round.isNone&&c.cs.isEmpty&&Nat.beq c.sz C.sl.length&&aZ P.globals.size π σ C.sl (c.tm.range au c.sz 0) && cL P.globals.size K.box.length C.box C.ks π σ c.H (V.plsL (c.tm.range au c.sz 0)++fL (Nat.succ P.globals.size) K.box.length)&&σ.all (X.at1 P.globals.size)&&todo.all AItem.pl0)=bb at hto;cases bb with
 |false=>cases hto
 |true=>
 simp only[cond_true,Option.some.injEq] at hto;subst hto;simp only[Bool.and_eq_true] at hb;obtain⟨⟨⟨⟨⟨⟨⟨⟨⟨b1,b2⟩,b3⟩,b4⟩,b5⟩,b6⟩,b7⟩,b8⟩,b11⟩,b13⟩:=hb;obtain⟨E2,fr2,cs2,w2,hst,hmr⟩:=hfin _ _ _ rfl;have e1:=aa b1;have e6:=aa b6
 have hcs:cs2=cs:=by
  obtain⟨_,_,hf⟩:=hmr.frs;cases hcc:c.cs with
  |nil=>rw[hcc] at hf;exact hf
  |cons _ _=>rw[hcc] at b5;cases b5
 subst hcs;have hle:E.le E2:=hmr.wr.le;have hsz2:fr2.tmps.size=C.sl.length:=hmr.size.trans e6;have hpl0:=fun i hi=>List.all_eq_true.1 b13 i hi
 obtain⟨htd,htr⟩:aU E2 C.todo fr2.todo/\TR E2 c.tm fr2.tmps:=RunR.pl0 hpl0 hmr.rest;have hvs:VRs E2 (c.tm.range au c.sz 0) fr2.tmps.toList:=VRs.ofTR htr c.sz 0 (by rw[hmr.size];omega)
 have hkn:∀ l∈V.plsL (c.tm.range au c.sz 0)++fL (Nat.succ P.globals.size) K.box.length,∃ p,E2 l=some p:=fun l hl=>by
  rcases List.mem_append.1 hl with hl|hl
  ·exact hvs.at l hl
  ·obtain⟨g1,g2⟩:=oE.1 hl
   have e:P.globals.size+1+(l-(P.globals.size+1))=l:=by omega
   have hp:pls[l-(P.globals.size+1)]? = some pls[l-(P.globals.size+1)]:=ah (by omega);exact⟨_,hle l _ (by rw[<- hE];exact (congrArg (ax P _ pls) e.symm).trans ((cx _).trans hp))⟩
 have hden:σ.map (X.c E2)=σ.map (X.c E):=List.map_congr_left fun t ht=>by
  have hok:t.ok E:=by rw[<- hE];exact lK (List.all_eq_true.1 b11 t ht)
  unfold X.c;rw[X.den_mono hle hok]
 have hext2:ExtO old w w2:=⟨hmr.wr.old,hmr.wr.size,hmr.wr.os,hmr.wr.output,hmr.wr.tape⟩
 have hlt2:∀ b,old b->b<w2.heap.size:=fun b hb=>Nat.lt_of_lt_of_le (hlt b hb) hmr.wr.size
 have hsz0:0<w2.heap.size:=(hmr.wr.own _ _ (hle _ _ (by rw[<- hE];exact bj))).1;have hb8:=b8;unfold cL at hb8;simp only[Bool.and_eq_true] at hb8;obtain⟨⟨⟨⟨c1,c2⟩,c3⟩,c4⟩,c5⟩:=hb8;obtain⟨_,hbg⟩:=cB c1
 have hcan:=oG (tb:=tb) hmr.wr hmr.gl (Nat.le_trans hglw hmr.wr.size) hsz0 hkn b8 (fun t ht=>X.ok_mono hle (by rw[<- hE];exact lK (List.all_eq_true.1 b11 t ht))) old hlt2 fun i b l q h1 h2 h3 h4=>by
  obtain⟨l',hl',hm⟩:=hbg i b h1;rw[h3] at hl';cases hl';obtain⟨a1,_,a3,_⟩:=eV hm;rcases (hmr.wr.own l q h4).2 with g|g|g
  ·exact absurd g a1
  ·have:=a3 g;rw[h2] at this;cases this
  ·exact g
 have hwr:=hcan.wr;have hslots:=hcan.vrs _ _ _ b7 hvs;have hwts:=hcan.kinds _ _ hslots hC;rw[hden] at hwr hslots hwts;refine⟨fr2,w2,hst,⟨hext.trans hext2,hlt2,hmr.fn.trans e1,?_,?_,?_,hmr.mode,hsz2,hwts,fzF E2.fz,π.map (plOf E2),fun p hp=>?_,fun b o v h=>?_,fun b o v h hb=>?_,hwr,TR.ofVRs hslots,aU.pl0 hpl0 htd,fun i b hi hbi=>?_,by rw[List.length_map];exact hcan.len⟩⟩
 ·rw[hmr.kind];cases hk:c.kind<;>first|rfl|(rw[hk] at b3;cases b3)
 ·have:=hmr.round
  cases hr:c.round with
  |none=>rw[hr] at this;exact this
  |some _=>rw[hr] at b4;cases b4
 ·have:=hmr.defers
  cases hd:c.ds with
  |nil=>rw[hd] at this;exact this
  |cons _ _=>rw[hd] at b2;cases b2
 ·obtain⟨l,_,rfl⟩:=List.mem_map.1 hp;exact mX
 ·refine (hcan.fz b o v).2 (Env.fz_mono hle ?_)
  rw[<- hE,bo hpl];exact h01 b o v h
 ·obtain⟨l,p,hl,hv⟩:=gZ h
  have h2:E.fz b o v:=hmr.wr.fzo l p hl b o v hv hb;rw[<- hE,bo hpl] at h2;exact h10 b o v h2 hb
 ·have hk:=kC c4 i b hi hbi
  rw[Nat.zero_add] at hk;obtain⟨b',hb'⟩:=hsub i b hi hbi;rw[List.getElem?_map,hk,<- hkp i b' hi hb'];have hp:pls[i]? = some pls[i]:=ah (by omega);have hEi:E2 (P.globals.size+1+i)=some pls[i]:=hle _ _ (by rw[<- hE,cx];exact hp);have ho:=hpl _ (List.mem_of_getElem? hp);rw[hp];simp only[Option.map_some,eW hEi];rw[<- ho]
def CtrR (P:Program)(old:Nat->Prop)(w0:World)(φ0:Nat->Nat->Option Value)(pls0:List Pl)(tb:Nat->List Cl->Cl)(K:Ctr)(r:List Cl)(e:Ending)(w':World):Prop:=
 ∃ x φ' pls',∃ hlt:∀ b,old b->b<w'.heap.size,e=.returned x/\(∀ p∈pls',p.ob=noOb)/\(∀ b o v,φ0 b o=some v->φ' b o=some v)/\(∀ b o v,φ' b o=some v->old b->φ0 b o=some v)/\ExtO old w0 w'/\
  @WR _ (dcOf []) ⟨w',old,hlt,ax P (ghOf φ' r tb) pls'⟩ (ax P (ghOf φ' r tb) pls') (df P.globals.size K.bs') (P.globals.size+1+K.bs'.length) w'/\
  VR (ax P (ghOf φ' r tb) pls') K.res x/\Wts K.ks' r/\pls'.length=K.bs'.length/\∀ i b,i<K.box.length->K.bs'[i]? = some (some b)->pls'[i]? = pls0[i]?
theorem vw {old:Nat->Prop}{w0 w:World}{φ0 φ:Nat->Nat->Option Value}{pls0 pls:List Pl}{tb:Nat->List Cl->Cl}{K:Ctr}{bs:List (Option Bx)}{cls:List Cl}{π:List Nat}{σ:List X}{o:Out}{cs:List Frame}{fr:Frame}{D:List (X×Bool)}
  (hext:ExtO old w0 w)(hlt:∀ b,old b->b<w.heap.size)(hpl:∀ p∈pls,p.ob=noOb)(h01:∀ b o v,φ0 b o=some v->φ b o=some v)(h10:∀ b o v,φ b o=some v->old b->φ0 b o=some v)
  (hglw:P.globals.size<=w.heap.size)(hn:K.box.length<=pls.length)(hkp:∀ i b,i<K.box.length->bs[i]? = some (some b)->pls[i]? = pls0[i]?)(hsub:∀ i b,i<K.box.length->K.bs'[i]? = some (some b)->∃ b',bs[i]? = some (some b'))
  (hfin : @Fin _ (dcOf D) P ⟨w,old,hlt,ax P (ghOf φ cls tb) pls⟩ cs o fr cs w)(hK:K.ok P.globals.size=true)(hret:retB P P.globals.size K π σ o=true) :
  Ends P K.f cs fr w (CtrR P old w0 φ0 pls0 tb K (σ.map (X.c (ax P (ghOf φ cls tb) pls)))):=by
 letI:=dcOf D
 generalize hE:ax P (ghOf φ cls tb) pls=E at *;unfold retB at hret;split at hret
 case h_2=>cases hret
 rename_i v0 H0 nx0 hf;generalize hfz:frzP K.res v0 H0 nx0=rr at hret;obtain⟨v,H',nx'⟩:=rr;simp only[Bool.and_eq_true] at hret;obtain⟨⟨b1,b8⟩,b11⟩:=hret;simp only[Ctr.ok,Bool.and_eq_true] at hK;refine (fin_ends hfin hf).mono fun e w' ⟨x,E0',he,hx0,hwr0',hgl0⟩=>?_
 obtain⟨E',hle0,hx,hwr⟩:=zh hwr0' hx0 hfz;have hgl:∀ g,g<P.globals.size->∃ s,E' g=some ⟨g,0,s,undef,noOb,[]⟩:=fun g hg=>by obtain⟨s,hs⟩:=hgl0 g hg;exact⟨s,hle0 _ _ hs⟩
 have hle:E.le E':=hwr.le
 have hkn:∀ l∈V.pls v++fL (Nat.succ P.globals.size) K.box.length,∃ p,E' l=some p:=fun l hl=>by
  rcases List.mem_append.1 hl with hl|hl
  ·exact hx.at l hl
  ·obtain⟨g1,g2⟩:=oE.1 hl
   have e:P.globals.size+1+(l-(P.globals.size+1))=l:=by omega
   have hp:pls[l-(P.globals.size+1)]? = some pls[l-(P.globals.size+1)]:=ah (by omega);exact⟨_,hle l _ (by rw[<- hE];exact (congrArg (ax P _ pls) e.symm).trans ((cx _).trans hp))⟩
 have hden:σ.map (X.c E')=σ.map (X.c E):=List.map_congr_left fun t ht=>by
  have hok:t.ok E:=by rw[<- hE];exact lK (List.all_eq_true.1 b11 t ht)
  unfold X.c;rw[X.den_mono hle hok]
 have hext2:ExtO old w w':=⟨hwr.old,hwr.size,hwr.os,hwr.output,hwr.tape⟩
 have hlt2:∀ b,old b->b<w'.heap.size:=fun b hb=>Nat.lt_of_lt_of_le (hlt b hb) hwr.size
 have hsz0:0<w'.heap.size:=(hwr.own _ _ (hle _ _ (by rw[<- hE];exact bj))).1;have hb8:=b8;unfold cL at hb8;simp only[Bool.and_eq_true] at hb8;obtain⟨⟨⟨⟨c1,c2⟩,c3⟩,c4⟩,c5⟩:=hb8;obtain⟨_,hbg⟩:=cB c1
 have hcan:=oG (tb:=tb) hwr hgl (Nat.le_trans hglw hwr.size) hsz0 hkn b8 (fun t ht=>X.ok_mono hle (by rw[<- hE];exact lK (List.all_eq_true.1 b11 t ht))) old hlt2 fun i b l q h1 h2 h3 h4=>by
  obtain⟨l',hl',hm⟩:=hbg i b h1;rw[h3] at hl';cases hl';obtain⟨a1,_,a3,_⟩:=eV hm;rcases (hwr.own l q h4).2 with g|g|g
  ·exact absurd g a1
  ·have:=a3 g;rw[h2] at this;cases this
  ·exact g
 have hwr2:=hcan.wr;have hres:=hcan.vr _ _ _ b1 hx;have hwts:=hcan.kinds _ _ (.cons _ _ _ _ hres .nil) hK.1;rw[hden] at hwr2 hres hwts;refine⟨x,fzF E'.fz,π.map (plOf E'),hlt2,he,fun p hp=>?_,fun b o v h=>?_,fun b o v h hb=>?_,hext.trans hext2,hwr2,hres,hwts,by rw[List.length_map];exact hcan.len,fun i b hi hbi=>?_⟩
 ·obtain⟨l,_,rfl⟩:=List.mem_map.1 hp;exact mX
 ·refine (hcan.fz b o v).2 (Env.fz_mono hle ?_)
  rw[<- hE,bo hpl];exact h01 b o v h
 ·obtain⟨l,p,hl,hv⟩:=gZ h
  have h2:E.fz b o v:=hwr.fzo l p hl b o v hv hb;rw[<- hE,bo hpl] at h2;exact h10 b o v h2 hb
 ·have hk:=kC c4 i b hi hbi
  rw[Nat.zero_add] at hk;obtain⟨b',hb'⟩:=hsub i b hi hbi;rw[List.getElem?_map,hk,<- hkp i b' hi hb'];have hp:pls[i]? = some pls[i]:=ah (by omega);have hEi:E' (P.globals.size+1+i)=some pls[i]:=hle _ _ (by rw[<- hE,cx];exact hp);have ho:=hpl _ (List.mem_of_getElem? hp);rw[hp];simp only[Option.map_some,eW hEi];rw[<- ho]
end
end Go.Exo
end
