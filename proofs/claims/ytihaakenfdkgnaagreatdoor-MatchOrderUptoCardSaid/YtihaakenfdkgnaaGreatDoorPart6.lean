/-
  EXO, part N5: append, all ways. Own text.
-/
import Derived.Test.YtihaakenfdkgnaaGreatDoorPart5
import Derived.Lib.Bytealg
import Derived.Laws.Externs
set_option linter.all false
noncomputable section
namespace Go.Exo
variable [Sx] [Dc]
section
variable {P:Program}{w0:Bs}{E:Env}{H:T AObj}{nx:Nat}{w:World}
theorem VG.of_wr {R:Result Value}{v:V}{x:Value}{r:Res}(hv:VR E v x)(h:match r with
  |.valH v' H' nx2=>v'=v/\nx2=nx/\∃ w',R=.ok x w'/\WR w0 E H' nx w'/\Keep E E H H' nx
  |.fail _=>True
  |_=>False):VG w0 E H nx w R r:=by
 cases r with
 |valH v' H' nx2=>
  obtain⟨rfl,rfl,w',h1,h2,h3⟩:=h;exact⟨x,w',E,h1,Env.le.refl E,hv,h2,am _,h3⟩
 |fail _=>trivial
 |_=>exact h.elim
theorem wY (h:WR w0 E H nx w){t u ty e e':TypeId}{i:TypeInfo}{z:Value}(ht:P.underlying t=some (.slice e))(hu:P.underlying u=some (.slice e'))(hi:P.info? e=some i)(hz:i.zero=some z)(hzl:z.cells.size=i.size)
  {s:V}{S:Value}(hs:VR E s S){n:Nat}{X:Value}{news:List V}{xs:List Value}(hx:XR P w X n i.size xs)(hnews:VRs E news xs)(hlen:news.length=n*i.size) :
  VG w0 E H nx w ((Builtin.append_ #[t,u] ty #[S,X]).run P w) (app e i.size i.bytes s n news H nx):=by
 have hlx:xs.length=n*i.size:=by rw[<- hnews.length,hlen]
 cases hs<;>simp only[app]<;>try trivial
 case nils=>
  cases n with
  |zero=>
   have:xs=[]:=List.eq_nil_of_length_eq_zero (by omega);subst this;exact VG.val (so ht hu hi hx) .nils
  |succ m=>
   simp only;refine yC h hnews (c:=grownCap w (m+1) 0 e) (rest:=(Builtin.zeroCells z.cells (grownCap w (m+1) 0 e-(m+1))).toList) (d:=w.drawn+1) (grownCap_ge w (m+1) 0 e) (by rw[bu,hzl]) fun hr=>?_
   have:=dR (w:=w) (ty:=ty) ht hu hi hz (base:=none) (len:=0) (c:=0) (XR.nils i.size) hx (by omega) (by have:=hr;simpa using this);simpa using this
 case slice l off len cap esz p c hp h1 h2 h3=>
  cases hb:Nat.beq esz i.size with
  |false=>trivial
  |true=>
   have:=aa hb;subst this;simp only[cond_true];cases cap with
   |some k=>
    have hk:=h3 k rfl;subst hk;simp only;cases hb2:Nat.ble (Nat.add len n) k with
    |true=>
     have hle:len+n<=k:=ab hb2;simp only[cond_true];have hw:=wr_ok (P:=P) h hp hnews (off:=off+len*i.size) (v:=.slice l off (len+n) (some k) i.size) (nx':=nx) rfl;refine VG.of_wr (v:=.slice l off (len+n) (some k) i.size) (x:=.slice (some ⟨p.blk,p.base+off,none⟩) (len+n) k) (.slice _ _ _ _ _ _ _ hp hle h2 (by simp)) ?_;have e1:Nat.add off (Nat.mul len i.size)=off+len*i.size:=rfl;rw[e1];revert hw;cases wr l (off+len*i.size) news H nx (.slice l off (Nat.add len n) (some k) i.size) with
     |valH v' H' nx2=>
      rintro⟨a1,a2,w',a3,a4⟩;refine⟨a1,a2,w',fB ht hu hi hx hle ?_,a4⟩;rw[Nat.add_assoc];exact a3
     |fail _=>intro _;trivial
     |_=>intro hh;exact hh
    |false=>
     have hgt:k<len+n:=Nat.lt_of_not_le fun hh=>by rw[show Nat.ble (Nat.add len n) k=true from an hh] at hb2;cases hb2
     simp only[cond_false];refine jn h hp (Q:=VG w0 E H nx w _) (fun _=>trivial) fun vs ys hvl hvr hc=>?_
     have hyl:ys.length=len*i.size:=by rw[<- hvr.length,hvl];rfl
     refine yC h (hvr.append hnews) (c:=grownCap w (len+n) k e) (rest:=(Builtin.zeroCells z.cells (grownCap w (len+n) k e-(len+n))).toList) (d:=w.drawn+1) (grownCap_ge w (len+n) k e) (by rw[bu,hzl]) fun hr=>?_
     exact dR (w:=w) (ty:=ty) ht hu hi hz (XR.slice (P:=P) (c:=k) hyl hc) hx hgt (hr)
   |none=>
    simp only;cases n with
    |zero=>
     have:xs=[]:=List.eq_nil_of_length_eq_zero (by omega);subst this;have:=fB (ty:=ty) (b:=p.blk) (o:=p.base+off) (c:=c) (len:=len) ht hu hi hx (by omega) (w':=w) (by simp[storeCells]);exact VG.val this (.slice _ _ _ _ _ _ _ hp h1 h2 (by simp))
    |succ m=>
     simp only[upon];cases hb2:(dh (Nat.add len (m+1)) i.bytes&&gu news&&Nat.beq (Nat.add (Nat.mul len i.size) news.length) (Nat.mul (Nat.add len (m+1)) i.size)) with
     |false=>trivial
     |true=>
      simp only[Bool.and_eq_true] at hb2;obtain⟨⟨hroom,hone⟩,_⟩:=hb2;simp only[cond_true];refine jn h hp (Q:=VG w0 E H nx w _) (fun _=>trivial) fun old olds hvl hvr hc=>?_
      cases hobj:getH H l with
      |cells cs clen el cls rel fz ro=>
       simp only;cases hb3:(ro || !Nat.beq el e) with
       |true=>trivial
       |false=>
        simp only[Bool.or_eq_false_iff,Bool.not_eq_false'] at hb3;obtain⟨rfl,hel⟩:=hb3;have:=aa hel;subst this;simp only[cond_false,upon1];cases hfz:fzOk fz (Nat.add off (Nat.mul len i.size)) with
        |false=>trivial
        |true=>
         simp only[cond_true];cases cls with
         |zero=>
          simp only[aJ];have hm:=h.mkCls hp hobj;have hn:=h.fresh nx (am _);have hlt:l<nx:=Nat.lt_of_not_le fun hh=>by rw[(h.fresh l hh).1] at hp;cases hp
          have hself:getH (put .no (put .no H l (.cells cs clen el nx 0 fz false)) nx (.cls l none clen)) l=.cells cs clen el nx 0 fz false:=by rw[ar,if_neg (by omega),ar,if_pos rfl]
          have hC:getH (put .no (put .no H l (.cells cs clen el nx 0 fz false)) nx (.cls l none clen)) nx=.cls l none clen:=by rw[ar,if_pos rfl]
          have key:=uD hm (ty:=ty) ht hu hi hz hzl hp h2 (by omega) hself hC hfz hvr hnews hone hvl hc hx hlen hroom (H0:=H) (nx0:=nx) (by omega) (fun k hk hE _=>by
           refine⟨?_,by omega⟩
           rw[ar,if_neg (by omega),ar,if_neg (fun e=>by subst e;rw[hp] at hE;cases hE)])
          revert key;simp only[ue,aJ];have e1:∀ (k:T AObj->Res)(H:T AObj) lim' mk',T.setK .no (.cls (nx+1) lim' mk') H nx k=k (put .no H nx (.cls (nx+1) lim' mk')):=fun k _ _ _=>bO _ _ _ _ _
          have e2:∀ (k:T V->Res),T.ofK .bad (old++news) 0 .e k=k (putL .bad (old++news) 0 .e):=fun k=>bw _ _ _ _ _
          simp only[e1,e2,Nat.succ_eq_add_one,Nat.zero_add,Nat.add_eq,Nat.mul_eq];rintro⟨x,w',E',a1,a2,a3,a4,a5,a6⟩;refine⟨x,w',E',a1,a2,a3,?_,a5,?_⟩
          ·refine a4.congr fun k=>?_
           simp only[ar];by_cases c1:k=nx+1
           ·simp[c1]
           ·by_cases c2:k=nx<;>simp[c1,c2]
          ·intro k hk hE hcl
           obtain⟨b1,b2⟩:=a6 k hk hE hcl;refine⟨b1,?_⟩;rw[<- b2];simp only[ar];have c1:k≠nx+1:=by omega
           have c2:k≠nx:=by omega
           simp[c1,c2]
         |succ c0=>
          simp only;cases hcls:getH H (c0+1) with
          |cls cur lim mk=>
           simp only
           exact uD h (ty:=ty) ht hu hi hz hzl hp h2 (by omega) hobj hcls hfz hvr hnews hone hvl hc hx hlen hroom (H0:=H) (nx0:=nx) (am _)
            (fun k _ _ hcl=>⟨rfl,fun e=>by subst e;rw[hcls] at hcl;cases hcl⟩)
          |_=>trivial
      |_=>trivial
theorem wZ (h:WR w0 E H nx w){t u ty e e':TypeId}{i:TypeInfo}{z:V}(ht:P.underlying t=some (.slice e))(hu:P.underlying u=some (.slice e'))(hi:P.info? e=some i)(hz:aG i=some z)(hzl:z.cells.length=i.size)
  {s x:V}{S X:Value}(hs:VR E s S)(hx:VR E x X):VG w0 E H nx w ((Builtin.append_ #[t,u] ty #[S,X]).run P w) (mL e i.size i.bytes s x H nx):=by
 obtain⟨zx,hz1,hz2,hzr⟩:=bn (E:=E) hz;have hzl2:zx.cells.size=i.size:=by rw[<- hzl,(hz2.cells hzr).length];simp
 cases hx<;>simp only[mL]<;>try trivial
 case nils=>exact wY h ht hu hi hz1 hzl2 hs (XR.nils _) .nil (by simp)
 case slice l off n cap esz p c hp h1 h2 h3=>
  refine jn h hp (Q:=VG w0 E H nx w _) (fun _=>trivial) fun vs ys hvl hvr hc=>?_
  exact wY h ht hu hi hz1 hzl2 hs (XR.slice (by rw[<- hvr.length,hvl];rfl) hc) hvr hvl
 case emp l esz p o c hp _=>exact wY h ht hu hi hz1 hzl2 hs (XR.emp _ _ _) .nil (by simp)
theorem xAppN_ok (h:WR w0 E H nx w){t u ty e:TypeId}{k0:IntKind}{i:TypeInfo}{z:V}(ht:P.underlying t=some (.slice e))(hu:P.underlying u=some (.int k0))(hi:P.info? e=some i)(hz:aG i=some z)(hzl:z.cells.length=i.size)
  {s x:V}{S X:Value}(hs:VR E s S)(hx:VR E x X):VG w0 E H nx w ((Builtin.append_ #[t,u] ty #[S,X]).run P w) (xAppN e i.size i.bytes z.cells s x H nx):=by unfold xAppN;trivial
end
end Go.Exo
end

noncomputable section
namespace Go.Exo
variable [Sx] [Dc]
section
variable {P:Program}{w0:Bs}{E:Env}{H:T AObj}{nx:Nat}{w:World}
theorem sp {t:TypeId}{fs:Array Field}{ks:List TypeDesc}(ht:P.underlying t=some (.struct fs))(hf:iQ P t fs=some ks)(op:BinOp)(ox oy:Operand)(xs ys:Array Value)(w:World) :
  (eqGuard op t ox oy (.agg xs) (.agg ys)).run P w=.ok () w:=by
 obtain⟨h1,_⟩:=js hf
 have hg:P.eqGuardType P.depth t=false:=by
  have:∃ n,P.depth=n+2:=⟨2*(P.types.size+Made.depth),rfl⟩
  obtain⟨n,e⟩:=this;rw[e];simp only[Program.eqGuardType,ht];rw[<- Array.any_toList]
  have:∀ (l:List Field)(i:Nat)(ks:List TypeDesc),gh P l i=some ks->(l.any fun f=>f.name != "_" && P.eqGuardType (n+1) f.type)=false:=by
   intro l;induction l with
   |nil=>intro _ _ _;rfl
   |cons f l ih=>
    intro i ks hf;obtain⟨_,_,d,ks',hu,hd,hf',rfl⟩:=jr hf
    have hb:P.eqGuardType (n+1) f.type=false:=by
     simp only[Program.eqGuardType,av P hu];cases d<;>first|rfl|cases hd
    simp only[List.any_cons,hb,Bool.and_false,Bool.false_or];exact ih _ _ hf'
  exact this fs.toList 0 ks h1
 have hp:(program:Sem Program).run P w=.ok P w:=rfl;cases op<;>simp only[eqGuard]<;>first|rfl|simp[hg]
theorem qd {op:BinOp}{neg:Bool}(hop:op=cond neg .neq .eql){t:TypeId}{fs:Array Field}{ks:List TypeDesc}{ox oy:Operand}(ht:P.underlying t=some (.struct fs))(hf:iQ P t fs=some ks)
  {x y:V}{X Y:Value}(hx:VR E x X)(hy:VR E y Y):VG w0 E H nx w ((do eqGuard op t ox oy X Y;binOp op t X Y:Sem Value).run P w) (nu neg ks x y):=by
 cases hx<;>simp only[nu]<;>try trivial
 rename_i a xs ha;cases hy<;>(try trivial)
 rename_i b ys hb;simp only;cases hfit:fitL ks a with
 |false=>trivial
 |true=>
  simp only[cond_true];cases hq:bW a b with
  |none=>trivial
  |some r=>
   obtain⟨h1,_⟩:=nO ht hf ha hb hfit hq;have h1:=h1 w;refine VG.val ?_ (.bool _);rw[Sem.run_bind,sp ht hf,Result.andThen_ok];subst hop;cases neg with
   |false=>
    have:binOp .eql t (.agg xs.toArray) (.agg ys.toArray)=(do pure (.bool (<- Op.equal t (.agg xs.toArray) (.agg ys.toArray))):Sem Value):=rfl;show (binOp .eql t _ _).run P w=_;rw[this];simp[h1]
   |true=>
    have:binOp .neq t (.agg xs.toArray) (.agg ys.toArray)=(do pure (.bool (!(<- Op.equal t (.agg xs.toArray) (.agg ys.toArray)))):Sem Value):=rfl;show (binOp .neq t _ _).run P w=_;rw[this];simp[h1]
theorem w6 {t e:TypeId}{i:TypeInfo}{n:Nat}{g:Bool}(ht:P.underlying t=some (.array n e))(hi:P.info? e=some i)(ha:∀ w,(isAgg e).run P w=.ok g w){x j:V}{X J:Value}(hx:VR E x X)(hj:VR E j J) :
  VG w0 E H nx w ((Instr.index t X J).run P w) (rE n i.size g x j):=by unfold rE;trivial
theorem xCap_ok {t ty e:TypeId}(ht:P.underlying t=some (.slice e)){x:V}{X:Value}(hx:VR E x X):VG w0 E H nx w ((Builtin.cap_ #[t] ty #[X]).run P w) (xCap x):=by unfold xCap;trivial
theorem Ac (h:WR w0 E H nx w){t ty e:TypeId}{i:TypeInfo}{z:V}(ht:P.underlying t=some (.slice e))(hi:P.info? e=some i)(hz:aG i=some z){x:V}{X:Value}(hx:VR E x X) :
  VG w0 E H nx w ((Builtin.clear_ #[t] ty #[X]).run P w) (wy z.cells x H nx):=by unfold wy;trivial
theorem yD:∀ a b:List UInt8,cmpB a b=Lib.compareBytes a b
 |[],[]=>by simp[cmpB,Lib.compareBytes]
 |[],_::_=>by simp[cmpB,Lib.compareBytes]
 |_::_,[]=>by simp[cmpB,Lib.compareBytes]
 |a::r,b::s=>by
  have ih:=yD r s;simp only[cmpB,Lib.compareBytes]
  have h1:Nat.ble (Nat.succ a.toNat) b.toNat=decide (a<b):=by
   rw[Bool.eq_iff_iff,Nat.ble_eq,decide_eq_true_iff];exact Iff.rfl
  have h2:Nat.ble (Nat.succ b.toNat) a.toNat=decide (b<a):=by
   rw[Bool.eq_iff_iff,Nat.ble_eq,decide_eq_true_iff];exact Iff.rfl
  rw[h1,h2,ih];by_cases c1:a<b
  ·simp[c1]
  ·by_cases c2:b<a<;>simp[c1,c2]
theorem uE (fn:Func)(hn:fn.name = "internal/bytealg.abigen_runtime_cmpstring")(ho:fn.origin = "" \/ fn.origin = "internal/bytealg.abigen_runtime_cmpstring"):Extern.findNext fn=none:=by
 rcases ho with ho|ho <;>
 ·unfold Extern.findNext
  simp only[hn,ho];rfl
theorem findCmp (fn:Func)(hn:fn.name = "internal/bytealg.abigen_runtime_cmpstring"):Extern.find fn=some Extern.BytealgCompare.compare:=by
 unfold Extern.find;simp only[hn];rfl
theorem w7 {f:FuncId}{fn:Func}(hf:P.funcs[f]? = some fn)(hb:fn.body=none)(hn:fn.name = "internal/bytealg.abigen_runtime_cmpstring")(ho:fn.origin = "" \/ fn.origin = "internal/bytealg.abigen_runtime_cmpstring")
  {x y:V}{X Y:Value}(hx:VR E x X)(hy:VR E y Y):Good P w0 E H nx w ((callFunc f #[X,Y]).run P w) (rJ x y):=by unfold rJ;trivial
theorem w8 (h:WR w0 E H nx w){t kt e:TypeId}(ht:P.underlying t=some (.map kt e)){x:V}{X:Value}(hx:VR E x X):VG w0 E H nx w ((Instr.range t X).run P w) (rG x H nx):=by
 cases hx<;>simp only[rG]<;>try trivial
 rename_i l p hp;cases ho:getH H l with
 |map es clock=>
  obtain⟨es',h1,h2⟩:=h.mapObj hp ho;simp only[cn,aJ];have hn:=h.fresh nx (am _);have hle:E.le (E.set nx ⟨w.heap.size,0,0,undef,noOb,[]⟩):=Env.le_set _ hn.1;refine⟨.pointer (some ⟨w.heap.size,0,none⟩),_,_,?_,hle,sg E nx _ 0,h.new (.mapIter (some p.blk) clock #[] clock) (.mit0 l clock) 0 w.drawn rfl rfl ⟨p,hle _ _ hp,rfl,rfl⟩,by omega,?_⟩
  ·simp[Instr.range,run_underlying ht,aO h1]
  ·intro k hk hE _
   have:k≠nx:=by omega
   exact⟨by rw[Env.set_other _ _ _ _ this];exact hE,by rw[ar,if_neg this]⟩
 |_=>trivial
theorem gJ {b:Nat}{Q:Res->Prop}(hf:∀ m,Q (.fail m)):∀ (es:List (V×V×Nat))(es':List MapEntry),ERs E es es'->
  (∀ k v e,es'.find? (fun e=>e.born==b)=some e->VR E k e.key->VR E v e.val->Q (.val (.tup [k,v])))->Q (gw b es)
 |[],_,_,_=>hf _
 |_::_,[],h,_=>h.elim
 |(k,v,c)::r,e::es',⟨h1,h2,h3,h4⟩,hq=>by
  simp only[gw];cases hc:Nat.beq c b with
  |true=>
   have:(e.born==b)=true:=by rw[h3,beq_iff_eq];exact aa hc
   exact hq k v e (by rw[List.find?_cons,this]) h1 h2
  |false=>
   have:(e.born==b)=false:=by
    rw[h3,beq_eq_false_iff_ne];intro hh;subst hh;rw[Nat.beq_refl] at hc;cases hc
   exact gJ hf r es' h4 fun k v e2 he=>hq k v e2 (by rw[List.find?_cons,this];exact he)
theorem w9 (h:WR w0 E H nx w){x:V}{X:Value}(hx:VR E x X):VG w0 E H nx w ((Instr.entry X).run P w) (rH x H):=by
 cases hx<;>simp only[rH]<;>try trivial
 rename_i r off p hp;cases off with
 |succ _=>trivial
 |zero=>
  simp only;cases ho:getH H r with
  |mit m b c=>
   have hobj:=h.objs r p hp;rw[ho] at hobj;obtain⟨q,since,seen,h1,h2,h3,hbase⟩:=hobj;simp only;cases hm:getH H m with
   |mapR es c'=>
    obtain⟨es',h4,h5⟩:=h.mapObjR h1 hm;simp only;cases hcc:Nat.beq c c' with
    |false=>trivial
    |true=>
     obtain rfl:=aa hcc;simp only[cond_true];refine gJ (fun m=>trivial) es es'.toList h5 fun k v e he hk hv=>?_
     refine VG.val (x:=.tuple #[e.key,e.val]) ?_ (.tup _ [e.key,e.val] (.cons _ _ _ _ hk (.cons _ _ _ _ hv .nil)));have hg:(getObj p.blk).run P w=.ok (.mapIter (some q.blk) since seen c) w:=by simp only[getObj,Sem.run,h2]
     have he':es'.find? (fun e=>e.born==b)=some e:=by rw[<- Array.find?_toList];exact he
     simp[Instr.entry,hbase,hg,h3,aO h4,he']
   |map es c'=>
    obtain⟨es',h4,h5⟩:∃ es':Array MapEntry,w.heap[q.blk]? = some (.map es' c')/\ERs E es es'.toList:=by
     have:=h.objs m q h1;rw[hm] at this;exact this
    simp only;cases hcc:Nat.beq c c' with
    |false=>trivial
    |true=>
     obtain rfl:=aa hcc;simp only[cond_true];refine gJ (fun m=>trivial) es es'.toList h5 fun k v e he hk hv=>?_
     refine VG.val (x:=.tuple #[e.key,e.val]) ?_ (.tup _ [e.key,e.val] (.cons _ _ _ _ hk (.cons _ _ _ _ hv .nil)));have hg:(getObj p.blk).run P w=.ok (.mapIter (some q.blk) since seen c) w:=by simp only[getObj,Sem.run,h2]
     have he':es'.find? (fun e=>e.born==b)=some e:=by rw[<- Array.find?_toList];exact he
     simp[Instr.entry,hbase,hg,h3,aO h4,he']
   |_=>trivial
  |_=>trivial
theorem yE {kt:TypeId}{dk:TypeDesc}{ks:List TypeDesc}(hd:KD P kt dk ks){k z:V}{K Z:Value}(hk:VR E k K)(hz:VR E z Z)(hkk:keyK dk ks k=true){clock:Nat}{Q:Res->Prop}(hf:∀ m,Q (.fail m)){f:V->Nat->List (V×V×Nat)->Nat->Res} :
  ∀ (es:List (V×V×Nat))(es':List MapEntry)(i:Nat),ERs E es es'->
   (∀ l l',(FindR P kt dk K es' i none/\l'=es'++[{ key:=K,val:=Z,born:=clock }])->ERs E l l'->Q (f z clock l (Nat.succ clock)))->
   (∀ l l' j v Y e,FindR P kt dk K es' i (some (i+j,Y))->VR E v Y->es'[j]? = some e->Instr.sameBits 10000 e.key K=true->l'=es'.set j { e with key:=K }->ERs E l l'->Q (f v e.born l clock))->Q (entK k z clock f es)
 |[],[],i,_,h1,_=>h1 _ _ ⟨.nil i,rfl⟩ ⟨hk,hz,rfl,trivial⟩
 |[],_::_,_,h,_,_=>h.elim
 |(a,u,b)::r,[],_,h,_,_=>h.elim
 |(a,u,b)::r,e::es',i,⟨h1,h2,h3,h4⟩,hn,hy=>by
  simp only[entK];cases hq:gi k a with
  |none=>exact hf _
  |some t=>
   have hs:=j9 hd hk h1 hq hkk;cases t with
   |true=>
    have:=hy ((k,u,b)::r) ({ e with key:=K }::es') 0 u e.val e (.hit e es' i hs) h2 rfl (hs.2 rfl) rfl ⟨hk,h2,h3,h4⟩;rw[h3] at this;exact this
   |false=>
    refine yE hd hk hz hkk hf (f:=fun v b' l c=>f v b' ((a,u,b)::l) c) r es' (i+1) h4 (fun l l' hl hr=>hn _ (e::l') ⟨.miss e es' i _ hs hl.1,by rw[hl.2];rfl⟩ ⟨h1,h2,h3,hr⟩) fun l l' j v Y e2 hj hv he hb hl hr=>
     hy _ (e::l') (j+1) v Y e2 (.miss e es' i _ hs (by rwa [show i+(j+1)=i+1+j by omega])) hv (by simpa using he) hb (by rw[hl];rfl) ⟨h1,h2,h3,hr⟩
theorem uF (h:WR w0 E H nx w){l:Nat}{p:Pl}(hp:E l=some p){es:List (V×V×Nat)}{clock:Nat}(ho:getH H l=.map es clock){l2:List (V×V×Nat)}{l':List MapEntry}{c:Nat}(hr:ERs E l2 l') :
  WR w0 E (put .no H l (.map l2 c)) nx { w with heap:=w.heap.setIfInBounds p.blk (.map l'.toArray c) }:=by
 have hlt:p.blk<w.heap.size:=(h.own l p hp).1;refine h.upd l p hp _ (by rw[ho];intro hh;cases hh) (by rw[ho];rfl) (by rw[ho];rfl) (by rw[ho];rfl) (by rw[ho];rfl) rfl _ (.map l'.toArray c) (by simp) ?_ ?_ rfl rfl rfl ?_
 ·intro j hj;show (w.heap.setIfInBounds p.blk _)[j]? = _;simp[Ne.symm hj]
 ·show (w.heap.setIfInBounds p.blk _)[p.blk]? = _;simp[hlt]
 ·exact⟨l'.toArray,rfl,hr⟩
theorem nQ {es':Array MapEntry}{l':List MapEntry}{j:Nat}{e2:MapEntry}{g:MapEntry->MapEntry}(he:es'.toList[j]? = some e2)(hl:l'=es'.toList.set j (g e2)):l'.toArray=es'.modify j g:=by
 have hje:es'[j]? = some e2:=by simpa using he
 have hje2:es'[j]? = some e2:=hje;obtain⟨hj2,hje3⟩:=ag.1 hje2;rw[hl];apply Array.ext
 ·simp
 ·intro i h3 h4
  rw[Array.getElem_modify];simp only[List.getElem_toArray,List.getElem_set,Array.getElem_toList];by_cases c:j=i
  ·subst c;simp[hje3]
  ·simp[c]
theorem xb (h:WR w0 E H nx w){t kt e:TypeId}{dk:TypeDesc}{ks:List TypeDesc}{i:TypeInfo}{z:V}(ht:P.underlying t=some (.map kt e))(hd:KD P kt dk ks)(hi:P.info? e=some i)(hz:aG i=some z){m k:V}{M K:Value}
  (hm:VR E m M)(hkv:VR E k K)(hkk:keyK dk ks k=true):VG w0 E H nx w ((Instr.mapEntry t M K).run P w) (rD z m k H nx):=by
 obtain⟨zx,hz1,hz2,hzr⟩:=bn (E:=E) hz;cases hm<;>simp only[rD]<;>try trivial
 rename_i l p hp;cases ho:getH H l with
 |map es clock=>
  obtain⟨es',h1,h2⟩:=h.mapObj hp ho;simp only
  have fin:∀ (v:V)(Y:Value)(b:Nat)(l2:List (V×V×Nat))(l':List MapEntry)(c:Nat)(R:Result Value),VR E v Y->ERs E l2 l'->R=.ok (.tuple #[Y,goInt b]) { w with heap:=w.heap.setIfInBounds p.blk (.map l'.toArray c) }->
    VG w0 E H nx w R (dJ (.map l2 c) H l fun H=>.valH (.tup [v,.int .i64 (.ofNat b)]) H nx):=by
   intro v Y b l2 l' c R hv hr hR;simp only[aJ];refine⟨.tuple #[Y,goInt b],_,E,hR,Env.le.refl E,.tup _ [Y,goInt b] (.cons _ _ _ _ hv (.cons _ _ _ _ (.int _ _) .nil)),uF h hp ho hr,am _,WR.noTouch hp⟩
  refine yE (Q:=fun r=>VG w0 E H nx w _ r) hd hkv hz2 hkk (fun m=>trivial) es es'.toList 0 h2 ?_ ?_
  ·rintro l2 l' ⟨hn,rfl⟩ hr
   refine fin z zx clock l2 _ _ _ hz2 hr ?_
   have:(es'.toList++[({ key:=K,val:=zx,born:=clock }:MapEntry)]).toArray=es'.push { key:=K,val:=zx,born:=clock }:=by
    rw[<- List.push_toArray,Array.toArray_toList]
   rw[this];simp[Instr.mapEntry,run_underlying ht,aO h1,aX hd hkv hkk,aY hd.und hn,cu h1,aP hi hz1]
  ·intro l2 l' j v Y e2 hj hv he hb hl hr
   refine fin v Y e2.born l2 l' _ _ hv hr ?_;rw[Nat.zero_add] at hj;have hje:es'[j]? = some e2:=by simpa using he
   rw[nQ (g:=fun e=>{ e with key:=K }) he hl];simp[Instr.mapEntry,run_underlying ht,aO h1,aX hd hkv hkk,aY hd.und hj,Instr.keyThatStays,hje,hb,cu h1]
 |_=>trivial
theorem uG {b:Nat}{v:V}{X:Value}(hv:VR E v X){Q:Res->Prop}(hf:∀ m,Q (.fail m)){f:List (V×V×Nat)->Res}:∀ (es:List (V×V×Nat))(es':List MapEntry),ERs E es es'->
  (∀ l l' j e,es'.findIdx? (fun e=>(e.born:Int)==(b:Int))=some j->es'[j]? = some e->l'=es'.set j { e with val:=X }->ERs E l l'->Q (f l))->Q (bornK b v f es)
 |[],_,_,_=>hf _
 |_::_,[],h,_=>h.elim
 |(k,u,c)::r,e::es',⟨h1,h2,h3,h4⟩,hq=>by
  simp only[bornK];cases hc:Nat.beq c b with
  |true=>
   have:=aa hc;refine hq _ _ 0 e ?_ rfl rfl ⟨h1,hv,h3,h4⟩;rw[List.findIdx?_cons,h3,this];simp
  |false=>
   refine uG hv hf (f:=fun l=>f ((k,u,c)::l)) r es' h4 fun l l' j e2 hj he hl hr=>hq _ (e::l') (j+1) e2 ?_ (by simpa using he) (by rw[hl];rfl) ⟨h1,h2,h3,hr⟩
   have:((e.born:Int)==(b:Int))=false:=by
    rw[h3,beq_eq_false_iff_ne];intro hh;have:c=b:=by omega
    subst this;rw[Nat.beq_refl] at hc;cases hc
   rw[List.findIdx?_cons,this,hj];rfl
theorem Ad (h:WR w0 E H nx w){t:TypeId}{m s v:V}{M S X:Value}(hm:VR E m M)(hs:VR E s S)(hv:VR E v X):match wu m s v H nx with
  |.valH v' H' nx2=>v'=au/\nx2=nx/\∃ w',(Instr.entryStore t M S X).run P w=.ok () w'/\WR w0 E H' nx w'/\Keep E E H H' nx
  |.fail _=>True
  |_=>False:=by
 cases hm<;>simp only[wu]<;>try trivial
 rename_i l p hp;cases ho:getH H l with
 |map es clock=>
  obtain⟨es',h1,h2⟩:=h.mapObj hp ho;simp only;cases hs<;>(try trivial)
  rename_i k b;cases b with
  |negSucc _=>trivial
  |ofNat b=>
   simp only
   refine uG (Q:=fun r=>match r with
    |.valH v' H' nx2=>v'=au/\nx2=nx/\∃ w',(Instr.entryStore t (.map (some p.blk)) (.int k (.ofNat b)) X).run P w=.ok () w'/\WR w0 E H' nx w'/\Keep E E H H' nx
    |.fail _=>True
    |_=>False) hv (fun m=>trivial) es es'.toList h2 fun l2 l' j e2 hj he hl hr=>?_
   simp only[aJ];refine⟨trivial,trivial,_,?_,uF h hp ho hr,WR.noTouch hp⟩;rw[nQ (g:=fun e=>{ e with val:=X }) he hl]
   have hj':es'.findIdx? (fun e=>(e.born:Int)==(b:Int))=some j:=by
    have:=hj;rw[<- List.findIdx?_toArray] at this;simpa using this
   simp[Instr.entryStore,aO h1,asInt,asIntOf,hj',cu h1]
 |_=>trivial
end
theorem fD {P:Program}{w:World}{rb mb since last clock:Nat}{seen:Array Nat}{es:Array MapEntry}{ty:TypeId}(hit:w.heap[rb]? = some (.mapIter (some mb) since seen last))(hmap:w.heap[mb]? = some (.map es clock))
  (hborn:∀ e∈es,e.born<since)(hl:since<=last) :
  ((∀ e∈es,e.born∈seen)/\∃ d,(Instr.next (.pointer (some ⟨rb,0,none⟩)) false ty).run P w=.ok (.tuple #[.bool false]) { w with drawn:=d })\/
  (∃ e d,e∈es/\e.born∉seen/\(Instr.next (.pointer (some ⟨rb,0,none⟩)) false ty).run P w=.ok (.tuple #[.bool true,e.key,e.val]) { w with heap:=w.heap.setIfInBounds rb (.mapIter (some mb) since (seen.push e.born) clock),drawn:=d }):=by
 have hg:(getObj rb).run P w=.ok (.mapIter (some mb) since seen last) w:=by simp only[getObj,Sem.run,hit]
 have hm:(getObj mb).run P w=.ok (.map es clock) w:=by simp only[getObj,Sem.run,hmap]
 have hc:(!seen.isEmpty && !es.isEmpty&&es.all (fun e=>decide (e.born >= last)))=false:=by
  cases he:es.isEmpty with
  |true=>simp
  |false=>
   have:es.all (fun e=>decide (e.born >= last))=false:=by
    rw[Bool.eq_false_iff];intro h;rw[Array.all_eq_true] at h
    have hpos:0<es.size:=by
     rcases Nat.eq_zero_or_pos es.size with h0|h0
     ·rw[Array.isEmpty_eq_false_iff] at he;exact absurd (Array.eq_empty_of_size_eq_zero h0) he
     ·exact h0
    have h1:=h 0 hpos;have h2:=hborn es[0] (Array.getElem_mem hpos);simp at h1;omega
   rw[this];simp
 have hnew:(es.filter fun e=>!seen.contains e.born).filter (fun e=>decide (e.born >= since))=#[]:=by
  rw[Array.filter_eq_empty_iff];intro e he;have:=hborn e (Array.mem_filter.1 he).1;simp;omega
 have hold:(es.filter fun e=>!seen.contains e.born).filter (fun e=>decide (e.born<since))=es.filter fun e=>!seen.contains e.born:=by
  rw[Array.filter_eq_self];intro e he;have:=hborn e (Array.mem_filter.1 he).1;simp;omega
 have hch:∀ n,0<n->∃ i d,(choose (.mapNext n)).run P w=.ok i { w with drawn:=d }/\i<n:=fun n hn=>by
  cases hf:Question.forced (.mapNext n) with
  |true=>exact⟨0,w.drawn,by simp[choose,Sem.run,hf],hn⟩
  |false=>exact⟨w.tape w.drawn (.mapNext n) % n,w.drawn+1,by simp[choose,Sem.run,hf,Question.cut],Nat.mod_lt _ hn⟩
 simp only[Instr.next,Sem.run_bind,hg,Result.andThen_ok,hm,hc,Bool.false_eq_true,if_false,hold,hnew,Array.append_empty];generalize hleft:es.filter (fun e=>!seen.contains e.born)=left;cases he:left.isEmpty with
 |true=>
  have h0:left=#[]:=by simpa using he
  left;refine⟨fun e hes=>?_,?_⟩
  ·have:=(Array.filter_eq_empty_iff.1 (hleft.trans h0)) e hes
   simpa using this
  ·obtain⟨i,d,h1,h2⟩:=hch 1 (by omega)
   have hi:i=0:=by omega
   subst hi h0;refine⟨d,?_⟩;have e1:((if true=true then #[none] else #[])++Array.map some (#[]:Array MapEntry))=(#[none]:Array (Option MapEntry)):=by simp
   rw[e1];have e2:(#[none]:Array (Option MapEntry)).size=1:=rfl;rw[e2,h1];rfl
 |false=>
  right
  have hpos:0<left.size:=by
   rcases Nat.eq_zero_or_pos left.size with h0|h0
   ·rw[Array.isEmpty_eq_false_iff] at he;exact absurd (Array.eq_empty_of_size_eq_zero h0) he
   ·exact h0
  obtain⟨i,d,h1,h2⟩:=hch left.size hpos
  have hm2:∀ e,e∈left->e∈es/\e.born∉seen:=fun e he'=>by
   rw[<- hleft] at he';have:=Array.mem_filter.1 he';simpa using this
  have hm3:=hm2 _ (Array.getElem_mem h2);refine⟨left[i],d,hm3.1,hm3.2,?_⟩;have hrb:rb<w.heap.size:=(ag.1 hit).1;simp only[Bool.false_eq_true,if_false,Array.empty_append,Array.size_map,h1,Result.andThen_ok];have hget:(Array.map some left)[i]? = some (some left[i]):=by simp[h2]
  rw[hget];simp only[Sem.run_bind]
  have hset:(setObj rb (.mapIter (some mb) since (seen.push left[i].born) clock)).run P { w with drawn:=d }=.ok () { w with heap:=w.heap.setIfInBounds rb (.mapIter (some mb) since (seen.push left[i].born) clock),drawn:=d }:=by
   simp only[setObj,Sem.run,hit]
  rw[hset];rfl
theorem pO {P:Program}{w:World}{rb mb since clock:Nat}{seen:Array Nat}{e:MapEntry}{ty:TypeId}(hit:w.heap[rb]? = some (.mapIter (some mb) since seen clock))(hmap:w.heap[mb]? = some (.map #[e] clock))(hs:e.born∈seen)(hb:e.born<clock) :
  ∃ d,(Instr.next (.pointer (some ⟨rb,0,none⟩)) false ty).run P w=.ok (.tuple #[.bool false]) { w with drawn:=d }:=by
 have hg:(getObj rb).run P w=.ok (.mapIter (some mb) since seen clock) w:=by simp only[getObj,Sem.run,hit]
 have hm:(getObj mb).run P w=.ok (.map #[e] clock) w:=by simp only[getObj,Sem.run,hmap]
 have hc:(!seen.isEmpty && !(#[e]:Array MapEntry).isEmpty&&(#[e]:Array MapEntry).all (fun e=>decide (e.born >= clock)))=false:=by
  have:(#[e]:Array MapEntry).all (fun e=>decide (e.born >= clock))=false:=by simp;omega
  rw[this];simp
 have hleft:(#[e]:Array MapEntry).filter (fun e=>!seen.contains e.born)=#[]:=by
  rw[Array.filter_eq_empty_iff];intro x hx;have:x=e:=by simpa using hx
  subst this;simpa using hs
 have hch:∃ d,(choose (.mapNext 1)).run P w=.ok 0 { w with drawn:=d }:=by
  cases hf:Question.forced (.mapNext 1) with
  |true=>exact⟨w.drawn,by simp[choose,Sem.run,hf]⟩
  |false=>exact⟨w.drawn+1,by
    have:w.tape w.drawn (.mapNext 1) % 1=0:=Nat.mod_one _
    simp[choose,Sem.run,hf,Question.cut,this]⟩
 obtain⟨d,h1⟩:=hch;refine⟨d,?_⟩;simp only[Instr.next,Sem.run_bind,hg,Result.andThen_ok,hm,hc,Bool.false_eq_true,if_false,hleft];have e1:((if (Array.filter (fun e=>decide (e.born<since)) (#[]:Array MapEntry)).isEmpty=true then #[none] else #[])++Array.map some (Array.filter (fun e=>decide (e.born<since)) (#[]:Array MapEntry)++Array.filter (fun e=>decide (e.born >= since)) (#[]:Array MapEntry)))=(#[none]:Array (Option MapEntry)):=by simp
 rw[e1];have e2:(#[none]:Array (Option MapEntry)).size=1:=rfl;rw[e2,h1];rfl
section
variable {P:Program}{w0:Bs}{E:Env}{H:T AObj}{nx:Nat}{w:World}
theorem Ae (h:WR w0 E H nx w){ty:TypeId}{x:V}{X:Value}(hx:VR E x X):VG w0 E H nx w ((Instr.next X false ty).run P w) (wv x H nx):=by
 cases hx<;>simp only[wv]<;>try trivial
 rename_i r off p hp;cases off with
 |succ _=>trivial
 |zero=>
  simp only;cases ho:getH H r with
  |mit0 m since=>
   have hobj:=h.objs r p hp;rw[ho] at hobj;obtain⟨q,h1,h2,hbase⟩:=hobj;have hlt:p.blk<w.heap.size:=(h.own r p hp).1;simp only;cases hm:getH H m with
   |map es c'=>
    cases es with
    |nil=>trivial
    |cons a rr=>
     cases rr with
     |cons _ _=>trivial
     |nil=>
      obtain⟨k,v,b⟩:=a;have hob2:=h.objs m q h1;rw[hm] at hob2;obtain⟨es',h4,h5⟩:=hob2;simp only;cases hcc:(Nat.beq c' since&&Nat.ble (Nat.succ b) since) with
      |false=>trivial
      |true=>
       simp only[Bool.and_eq_true] at hcc;obtain rfl:=aa hcc.1;have hbs:b<c':=ab hcc.2
       obtain⟨e,he,hk,hv,hb⟩:∃ e,es'.toList=[e]/\VR E k e.key/\VR E v e.val/\e.born=b:=by
        cases hl:es'.toList with
        |nil=>rw[hl] at h5;exact h5.elim
        |cons e r2=>
         rw[hl] at h5;obtain⟨g1,g2,g3,g4⟩:=h5;cases r2 with
         |nil=>exact⟨e,rfl,g1,g2,g3⟩
         |cons _ _=>exact g4.elim
       simp only[cond_true,aJ]
       obtain⟨d,hrun⟩:∃ d,(Instr.next (.pointer (some ⟨p.blk,0,none⟩)) false ty).run P w=.ok (.tuple #[.bool true,e.key,e.val]) { w with heap:=w.heap.setIfInBounds p.blk (.mapIter (some q.blk) c' ((#[]:Array Nat).push e.born) c'),drawn:=d }:=by
        rcases fD (P:=P) (ty:=ty) h2 h4 (fun x hx=>by
         have:x∈es'.toList:=by simpa using hx
         rw[he] at this
         have:x=e:=by simpa using this
         rw[this,hb];exact hbs) (am _) with⟨g,_⟩|⟨x,d,g1,_,g3⟩
        ·have:=g e (by
          have:e∈es'.toList:=by rw[he];exact .head _
          simpa using this)
         simp at this
        ·have:x∈es'.toList:=by simpa using g1
         rw[he] at this;obtain rfl:x=e:=by simpa using this
         exact⟨d,g3⟩
       refine⟨.tuple #[.bool true,e.key,e.val],_,E,(by rw[hbase];exact hrun),Env.le.refl E,.tup _ [.bool true,e.key,e.val] (.cons _ _ _ _ (.bool _) (.cons _ _ _ _ hk (.cons _ _ _ _ hv .nil))),?_,am _,?_⟩
       ·refine h.upd r p hp _ (by rw[ho];intro hh;cases hh) (by rw[ho];rfl) (by rw[ho];rfl) (by rw[ho];rfl) (by rw[ho];rfl) rfl _ (.mapIter (some q.blk) c' ((#[]:Array Nat).push e.born) c') (by simp) ?_ ?_ rfl rfl rfl ⟨q,c',_,h1,rfl,by simp[hb],hbase⟩
        ·intro j hj;show (w.heap.setIfInBounds p.blk _)[j]? = _;simp[Ne.symm hj]
        ·show (w.heap.setIfInBounds p.blk _)[p.blk]? = _;simp[hlt]
       ·exact WR.noTouch hp
   |_=>trivial
  |mit m b c=>
   have hobj:=h.objs r p hp;rw[ho] at hobj;obtain⟨q,since,seen,h1,h2,h3,hbase⟩:=hobj;simp only;cases hm:getH H m with
   |map es c'=>
    cases es with
    |nil=>trivial
    |cons a rr=>
     cases rr with
     |cons _ _=>trivial
     |nil=>
      obtain⟨k,v,b'⟩:=a;have hob2:=h.objs m q h1;rw[hm] at hob2;obtain⟨es',h4,h5⟩:=hob2;simp only;cases hcc:(Nat.beq c c'&&Nat.beq b b'&&Nat.ble (Nat.succ b) c) with
      |false=>trivial
      |true=>
       simp only[Bool.and_eq_true] at hcc;obtain rfl:=aa hcc.1.1;obtain rfl:=aa hcc.1.2;have hbs:b<c:=ab hcc.2
       obtain⟨e,he,hb⟩:∃ e,es'=#[e]/\e.born=b:=by
        cases hl:es'.toList with
        |nil=>rw[hl] at h5;exact h5.elim
        |cons e r2=>
         rw[hl] at h5;obtain⟨g1,g2,g3,g4⟩:=h5;cases r2 with
         |nil=>exact⟨e,Array.ext' hl,g3⟩
         |cons _ _=>exact g4.elim
       subst he;obtain⟨d,hrun⟩:=pO (P:=P) (ty:=ty) h2 h4 (by rw[hb];exact Array.mem_of_back? h3) (by omega);exact⟨.tuple #[.bool false],_,E,(by rw[hbase];exact hrun),Env.le.refl E,.tup _ [.bool false] (.cons _ _ _ _ (.bool _) .nil),h.draw d,am _,Keep.refl _ _ _⟩
   |_=>trivial
  |_=>trivial
end
end Go.Exo
end

noncomputable section
namespace Go.Exo
variable [Sx] [Dc]
section
variable {P:Program}{w0:Bs}{E:Env}{H:T AObj}{nx:Nat}{w:World}
theorem Good.unit {s:Sem Unit}{r:Res}(h:match r with
  |.valH v' H' nx2=>v'=au/\nx2=nx/\∃ w',s.run P w=.ok () w'/\WR w0 E H' nx w'/\Keep E E H H' nx
  |.fail _=>True
  |_=>False):Good P w0 E H nx w ((do s;pure .skip:Sem Next).run P w) r:=by
 cases r with
 |valH v' H' nx2=>
  obtain⟨rfl,rfl,w',h1,h2,h3⟩:=h;refine⟨.skip,undef,w',E,?_,rfl,Env.le.refl E,VR.undef E,h2,am _,h3⟩;rw[Sem.run_bind,h1];rfl
 |fail _=>trivial
 |_=>exact h.elim
theorem cH {t:TypeId}{d:TypeDesc}(h:undT P t=some d)(w:World):(isAgg t).run P w=.ok (aggD d) w:=by
 have e:dg P t=aggD d:=by unfold dg;rw[h]
 cases hd:aggD d with
 |true=>exact uu P (by rw[e,hd]) w
 |false=>exact j6 P h (by rw[e,hd]) w
theorem mR {tm:T V}{ev:Operand->Value}{l:List Operand}(h:∀ x∈l,VR E ((ap x).ev tm) (ev x)):VRs E (evL tm (l.map ap)) (l.map ev):=by
 induction l with
 |nil=>exact .nil
 |cons a r ih=>exact .cons _ _ _ _ (h a (by simp)) (ih fun x hx=>h x (by simp[hx]))
theorem sq {tm:T V}{ev:Operand->Value}{x:Option Operand}(h:∀ y,x=some y->VR E ((ap y).ev tm) (ev y)):OVR E (evO tm (x.map ap)) (x.map ev):=by
 cases x with
 |none=>exact⟨fun v hv=>by simp[evO] at hv,fun _=>rfl⟩
 |some y=>exact⟨fun v hv=>⟨ev y,rfl,by simp only[evO,Option.map_some,Option.some.injEq] at hv;subst hv;exact h y rfl⟩,fun hv=>by simp[evO] at hv⟩
theorem lr {f:Nat}{a:AFn}(h:fnOf P f=some a):∃ fn c,P.funcs[f]? = some fn/\fn.body=some c/\(fn.name == "runtime.NumGoroutine")=false/\
  a={ ntmps:=fn.ntmps,body:=c,results:=fn.results.toList,sizes:=fn.results.toList.map fun|.tmp _=>none|.cell _ t=>if dg P t then some (eN P t) else none }:=by
 unfold fnOf at h;cases hf:mf P f with
 |none=>rw[hf] at h;cases h
 |some fn=>
  rw[hf] at h;simp only at h;cases hb:fn.body with
  |none=>rw[hb] at h;cases h
  |some c=>
   rw[hb] at h;simp only at h;cases hn:(fn.name == "runtime.NumGoroutine") with
   |true=>rw[hn] at h;cases h
   |false=>
    rw[hn] at h;cases hr:nF P fn.results.toList with
    |false=>rw[hr] at h;cases h
    |true=>rw[hr] at h;cases h;exact⟨fn,c,gF P hf,hb,hn,rfl⟩
theorem xc {f:Nat}{a:AFn}(h:fnOf P f=some a):nF P a.results=true:=by
 unfold fnOf at h;cases hf:mf P f with
 |none=>rw[hf] at h;cases h
 |some fn=>
  rw[hf] at h;simp only at h;cases hb:fn.body with
  |none=>rw[hb] at h;cases h
  |some c=>
   rw[hb] at h;simp only at h;cases hn:(fn.name == "runtime.NumGoroutine") with
   |true=>rw[hn] at h;cases h
   |false=>
    rw[hn] at h;cases hr:nF P fn.results.toList with
    |false=>rw[hr] at h;cases h
    |true=>rw[hr] at h;cases h;exact hr
theorem cw {f:Nat}{a:AFn}(h:fnOf P f=some a)(args:Array Value)(w:World):(callFunc f args).run P w=.ok (.enter f args) w:=by
 obtain⟨fn,c,h1,h2,h3,_⟩:=lr h;have h4:fn.name ≠ "runtime.NumGoroutine" := by simpa using h3
 simp[callFunc,h1,h2,h4]
theorem xCall_ok {f:V}{F:Value}(hf:VR E f F){args:List V}{xs:List Value}(ha:VRs E args xs) :
  Good P w0 E H nx w ((do let d <- Deferred.ofValue F xs.toArray;invoke d.target d.args:Sem Next).run P w) (xCall f args):=by
 cases hf<;>simp only[xCall]<;>try trivial
 rename_i fn fn' first captured fs cs hfn h1 h2
 cases fn<;>simp only<;>try trivial
 case func g=>
  simp only[FnR] at hfn;subst hfn;intro a hfo;refine⟨fs++(xs++cs),?_,h1.append (ha.append h2)⟩;have:=cw hfo (fs.toArray++xs.toArray++cs.toArray) w;simp only[Deferred.ofValue,Sem.run_bind,Sem.run_pure,Result.andThen_ok,invoke];rw[this];simp
 case yield l=>
  obtain⟨p,hp,rfl⟩:=hfn;refine⟨p,fs++xs,hp,?_,h1.append ha⟩;simp[Deferred.ofValue,invoke]
theorem Af {f:V}{F:Value}(hf:VR E f F){args:List V}{xs:List Value}(ha:VRs E args xs) :
  Good P w0 E H nx w ((do pure (.defer (<- Deferred.ofValue F xs.toArray)):Sem Next).run P w) (nw f args):=by
 cases hf<;>simp only[nw]<;>try trivial
 rename_i fn fn' first captured fs cs hfn h1 h2
 exact⟨_,rfl,fn',cs,fs++xs,hfn,h2,h1.append ha,by simp⟩
theorem Ag {x:V}{X:Value}(hx:VR E x X):VG w0 E H nx w ((Instr.panic X).run P w) (wz x):=by
 cases hx<;>simp only[wz]<;>try trivial
 rename_i t v x hx;exact⟨_,rfl,.iface _ _ _ hx⟩
theorem xd (fn:Func)(hn:fn.name = "internal/bytealg.IndexByteString")(ho:fn.origin = "" \/ fn.origin = "internal/bytealg.IndexByteString"):Extern.findNext fn=none:=by
 rcases ho with ho|ho <;>
 ·unfold Extern.findNext
  simp only[hn,ho];rfl
theorem findIB (fn:Func)(hn:fn.name = "internal/bytealg.IndexByteString"):Extern.find fn=some Extern.BytealgIndexByte.indexByte:=by
 unfold Extern.find;simp only[hn];rfl
theorem Ah {f:FuncId}{fn:Func}(hf:P.funcs[f]? = some fn)(hb:fn.body=none)(hn:fn.name = "internal/bytealg.IndexByteString")(ho:fn.origin = "" \/ fn.origin = "internal/bytealg.IndexByteString")
  {x y:V}{X Y:Value}(hx:VR E x X)(hy:VR E y Y):Good P w0 E H nx w ((callFunc f #[X,Y]).run P w) (nv x y):=by
 have hrun:=fun args=>run_callFunc_extern (P:=P) hf (by rw[hn];rfl) (by rw[hb];rfl) (xd fn hn ho) (findIB fn hn) args w
 rw[hrun];cases hx<;>simp only[nv]<;>try trivial
 rename_i l n s h1 h2;cases hy<;>try trivial
 rename_i k b;cases k<;>try trivial
 cases b with
 |negSucc m=>trivial
 |ofNat b=>
  simp only;cases hb2:Nat.ble (Nat.succ b) 256 with
  |false=>trivial
  |true=>
   have hlt:b<256:=ab hb2;simp only[cond_true];have hv:=uy (E:=E) s l n b h1 hlt l 0 (by omega);have hsz:=cZ h1;refine⟨.value (.int .i64 (firstIdx s (b:Int).toNat.toUInt8)),_,?_,rfl,?_⟩
   ·have:=run_indexByte_string (P:=P) s (b:Int) w
    have e:(Int.ofNat b)=(b:Int):=rfl;rw[e,this];rfl
   ·have e:(match (List.range' 0 l).find? (fun j=>s[j]! == UInt8.ofNat b) with|some j=>goInt j|none=>goInt (-1))=.int .i64 (firstIdx s (b:Int).toNat.toUInt8):=by
     unfold firstIdx;rw[hsz,List.range_eq_range'];have e2:((b:Int).toNat.toUInt8)=UInt8.ofNat b:=rfl;rw[e2];cases (List.range' 0 l).find? (fun j=>s[j]! == UInt8.ofNat b)<;>rfl
    rw[<- e];exact hv
end
end Go.Exo
end
