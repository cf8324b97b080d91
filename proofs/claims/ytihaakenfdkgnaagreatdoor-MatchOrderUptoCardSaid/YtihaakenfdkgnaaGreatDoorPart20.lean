/-
  slices.Clone at []string, on data. Own text.
-/
import Derived.Test.YtihaakenfdkgnaaGreatDoorPart18
import Derived.Test.YtihaakenfdkgnaaGreatDoorPart19
set_option linter.all false
noncomputable section
namespace Go.Proofs.Wo
open Go.Exo
variable {G:World->Prop}
def qW:Value->ByteArray|.string s=>s|_=>ByteArray.empty
theorem fc {w w':World}(h:RowKit.Below w.heap.size w w'):Ext w w':=⟨h.block,h.size,h.os,h.output,h.tape⟩
theorem xI:Go.Exo.Spec Tryz.prog G 40 [.one (.sl 9)] (.one (.one (.sl 9))) (fun c=>∃ nl rows,c=[.sl nl rows]/\rows.length*16<=140737488355328) (List.take 1):=by
 intro w φ args cls hG hφ ha hp;obtain⟨nl,rows,rfl,hb⟩:=hp;cases ha with
 |one h1 h2=>
 cases h2
 have hkeep:∀ w',Ext w w'->∀ b o v,φ b o=some v->w'.cell? ⟨b,o,none⟩=some v:=fun w' hx b o v h=>by
  have h1:=hφ b o v h;rw[<- h1];exact World.cell?_of_block (hx.old b (World.block_lt_of_cell? w ⟨b,o,none⟩ h1))
 have made:∀ (len:Nat)(vs:Nat->Nat->Value)(g cp:Nat)(cur:Array Value)(w':World),rows.length=len->nl=false->
   (∀ (i:Nat)(r:List Cl),rows[i]? = some r->r.length=(Sx.row 9).length)->
   (∀ (i:Nat)(r:List Cl)(j:Nat)(c:Cl)(k:Kd),rows[i]? = some r->r[j]? = some c->(Sx.row 9)[j]? = some k->CR (rel φ) k (vs i j) c)->
   RowKit.Below w.heap.size w w'->w.heap.size<=g->w'.heap[g]? = some (.cells cur 9 (0,0))->len<=cp->cp<=maxLen->(∀ i,i<len->cur[i]? = some (vs i 0))->
   ∃ x φ',Ending.returned (.slice (some ⟨g,0,none⟩) len cp)=.returned x/\(∀ b o v,φ b o=some v->φ' b o=some v)/\(∀ b o v,φ' b o=some v->w'.cell? ⟨b,o,none⟩=some v)/\
   (∀ b o v,φ' b o=some v->b<w.heap.size->φ b o=some v)/\Ext w w'/\ResR (rel φ') (.one (.one (.sl 9))) x (List.take 1 [.sl nl rows]):=by
  intro len vs g cp cur w' a1 hnl a4 a6 hbel hg hheap hncp hcpm hcur;subst hnl
  have hnone:∀ b o v,φ b o=some v->b≠g:=fun b o v h e=>by
   have:=World.block_lt_of_cell? w ⟨b,o,none⟩ (hφ b o v h);simp only at this;omega
  have hx:=fc hbel;refine⟨_,fun b o=>if b=g/\o<len then some (vs o 0) else φ b o,rfl,fun b o v h=>?_,fun b o v h=>?_,fun b o v h hlt=>?_,hx,.one (.sl 9 g 0 len cp rows vs a1 hncp hcpm a4 (fun i r j c hr hj=>?_) (fun i r j c kk hr hj hk=>(a6 i r j c kk hr hj hk).mono ?_)) .nil⟩
  ·show (if b=g/\o<len then some (vs o 0) else φ b o)=some v
   rw[if_neg (fun e=>hnone b o v h e.1)];exact h
  ·simp only at h
   split at h
   ·rename_i e
    obtain⟨rfl,h3⟩:=e;cases h;simp[World.cell?,hheap,hcur o h3]
   ·exact hkeep w' hx b o v h
  ·simp only at h
   split at h
   ·rename_i e;omega
   ·exact h
  ·have hi:i<len:=by have:=(ae.1 hr).1;omega
   have hr1:=a4 i r hr;have hj1:j<r.length:=(ae.1 hj).1;have h1:(Sx.row 9).length=1:=rfl;have hj0:j=0:=by omega
   subst hj0;show (if g=g/\0+i*(Sx.row 9).length+0<len then some (vs (0+i*(Sx.row 9).length+0) 0) else φ g _)=some (vs i 0);rw[h1,if_pos ⟨rfl,by omega⟩];simp
  ·intro b o v h
   show (if b=g/\o<len then some (vs o 0) else φ b o)=some v;rw[if_neg (fun e=>hnone b o v h e.1)];exact h
 cases h1 with
 |nil _=>
  refine (Tryz.slices_Clone_string_nil 0 0 w).mono ?_;rintro e w' ⟨rfl,rfl⟩;exact⟨_,φ,rfl,fun _ _ _ h=>h,hφ,fun _ _ _ h _=>h,⟨fun _ _=>rfl,am _,rfl,rfl,rfl⟩,.one (.nil 9) .nil⟩
 |e0 _ a=>
  refine (Tryz.slices_Clone_string_zero a 0 w).mono ?_;rintro e w' ⟨v',rfl,hown,hne,hbel⟩;obtain⟨hlen,⟨rfl,_⟩|⟨g,cp,cur,rfl,hg,hheap,hncp,hcpm,hcs,htake⟩⟩:=hown
  ·exact absurd rfl hne
  ·exact made 0 (fun _ _=>.nilIface) g cp cur w' rfl rfl (fun i r h=>by simp at h) (fun i r j c kk h=>by simp at h) hbel hg hheap hncp hcpm (fun i hi=>by omega)
 |sl _ blk off len cap _ vs a1 a2 a3 a4 a5 a6=>
  have hstr:∀ i,i<len->vs i 0=.string (qW (vs i 0))/\φ blk (off+i)=some (vs i 0):=fun i hi=>by
   have hr:rows[i]? = some rows[i]:=ah (by omega);have h1:rows[i].length=1:=a4 i _ hr;have hj:rows[i][0]? = some rows[i][0]:=ah (by omega);have hcr:=a6 i _ 0 _ .str hr hj rfl;have hf:=a5 i _ 0 _ hr hj;refine⟨?_,?_⟩
   ·generalize vs i 0=x at hcr ⊢
    generalize rows[i][0]=y at hcr;cases hcr;rfl
   ·have e:off+i*(Sx.row 9).length+0=off+i:=by show off+i*1+0=off+i;omega
    rw[e] at hf;exact hf
  have hz:((List.range len).map fun i=>qW (vs i 0)).length=len:=by simp
  refine (Tryz.slices_Clone_string blk off len cap ((List.range len).map fun i=>qW (vs i 0)) w (by omega) (by omega) fun j hj=>?_).mono ?_
  ·rw[hz] at hj
   obtain⟨s1,s2⟩:=hstr j hj;have s3:((List.range len).map fun i=>qW (vs i 0)).getD j ByteArray.empty=qW (vs j 0):=by simp[List.getD,hj]
   rw[hφ _ _ _ s2,s3,<- s1]
  ·rintro e w' ⟨v',rfl,hown,hne,hbel⟩
   obtain⟨hlen,⟨rfl,_⟩|⟨g,cp,cur,rfl,hg,hheap,hncp,hcpm,hcs,htake⟩⟩:=hown
   ·exact absurd rfl hne
   ·refine made len vs g cp cur w' a1 rfl a4 a6 hbel hg hheap hncp hcpm (fun i hi=>?_)
    have h3:(cur.toList.take (len*1))[i]? = (((List.range len).map fun i=>qW (vs i 0)).take len |>.map Value.string)[i]? := by rw[htake]
    rw[List.getElem?_take] at h3;rw[if_pos (by omega)] at h3;rw[<- Array.getElem?_toList,h3];simp[hi];exact (hstr i hi).1.symm
end Go.Proofs.Wo
end

noncomputable section
namespace Go.Proofs.Wo
open Go.Exo Go.Exo.Wo
set_option maxRecDepth 100000
def vL:List Ct:=[]
def copyt:Tr:=(fun(a b:X)=>.must (.app 9 1000001 b .bool) true <| .must (.app 9 1000000 a .bool) true <| .leaf 11 (.ret [] [(.var 9 0 (.int .i64)),(.var 9 1 .bool),(.var 9 2 (.int .i64)),(.var 9 3 .str),(.app 9 10 b (.sl 9)),(.app 9 20 a (.sl 29))])) (.cons (.var 9 5 (.sl 29)) .nilA) (.cons (.var 9 4 (.sl 9)) .nilA)
theorem copyt_ok:Pth.allS Tryz.prog hkCopy 9 vC vL (copyt.paths []):=
 ⟨Pth.rS,
  trivial⟩
def ia:Ct:=⟨bf (outS Tryz.prog e7 9 eG [] 9),[.junk,.junk,.junk,.nils,.junk,.junk,.x (.var 9 0 (.sl 29)),.x (.var 9 1 (.int .i64)),.int .i64 (0),.junk,.junk,.junk,.junk,.junk,.junk,.junk,.junk,.junk,.junk],[],[(.sl 29),(.int .i64)]⟩
def ib:Ct:=(fun(a b:X)(c d:Kd)=>(⟨bf (outC Tryz.prog e7 9 41 ia [((.bin .lss b (.var 9 1 c)),true),((.inr b (.len a)),true),((.app 9 1000000 (.cons (.el a b 0 c) (.cons (.el a b 1 .bool) (.cons (.el a b 2 c) (.cons (.el a b 3 .str) (.cons (.el a b 4 (.sl 9)) (.cons (.el a b 5 d) .nilA)))))) .bool),true)] 14),[.junk,.junk,.junk,.lst 10 a,.junk,.junk,.x (.var 9 1 d),.x (.var 9 2 c),.x (.var 9 3 c),.junk,.junk,.junk,.junk,.junk,.junk,.junk,.junk,.junk,.junk],[some (.own 29)],[d,d,c,c]⟩:Ct)) (.var 9 0 (.sl 29)) (.int .i64 (0)) (.int .i64) (.sl 29)
def fW:List Ct:=[ia,ib]
def tA:Tr:=(fun(a:X)=>.leaf 9 (.cut 0 [] [a,(.len a)])) (.var 9 0 (.sl 29))
def kL:Tr:=(fun(a c d:X)(b:Kd)=>.ask (.bin .lss d (.var 9 1 b)) (.must (.inr d (.len c)) true <| .must (.app 9 1000000 a .bool) true <| .leaf 14 (.cut 1 [14] [(.snoc (.nil 29) (.cons (.app 9 0 a b) (.cons (.app 9 1 a .bool) (.cons (.app 9 2 a b) (.cons (.app 9 3 a .str) (.cons (.app 9 4 a (.sl 9)) (.cons (.app 9 5 a (.sl 29)) .nilA))))))),c,(.var 9 1 b),(.int .i64 (1))])) (.leaf 8 (.ret [] [(.nil 29)]))) (.cons (.el (.var 9 0 (.sl 29)) (.int .i64 (0)) 0 (.int .i64)) (.cons (.el (.var 9 0 (.sl 29)) (.int .i64 (0)) 1 .bool) (.cons (.el (.var 9 0 (.sl 29)) (.int .i64 (0)) 2 (.int .i64)) (.cons (.el (.var 9 0 (.sl 29)) (.int .i64 (0)) 3 .str) (.cons (.el (.var 9 0 (.sl 29)) (.int .i64 (0)) 4 (.sl 9)) (.cons (.el (.var 9 0 (.sl 29)) (.int .i64 (0)) 5 (.sl 29)) .nilA)))))) (.var 9 0 (.sl 29)) (.int .i64 (0)) (.int .i64)
def kM:Tr:=(fun(a c d e:X)(b:Kd)=>.ask (.bin .lss e (.var 9 2 b)) (.must (.inr e (.len d)) true <| .must (.app 9 1000000 a .bool) true <| .must (.inr (.len c) (.int .i64 (1599289640401))) true <| .leaf 14 (.cut 1 [14] [(.snoc c (.cons (.app 9 0 a b) (.cons (.app 9 1 a .bool) (.cons (.app 9 2 a b) (.cons (.app 9 3 a .str) (.cons (.app 9 4 a (.sl 9)) (.cons (.app 9 5 a (.sl 29)) .nilA))))))),d,(.var 9 2 b),(.bin .add e (.int .i64 (1)))])) (.leaf 8 (.ret [] [c]))) (.cons (.el (.var 9 1 (.sl 29)) (.var 9 3 (.int .i64)) 0 (.int .i64)) (.cons (.el (.var 9 1 (.sl 29)) (.var 9 3 (.int .i64)) 1 .bool) (.cons (.el (.var 9 1 (.sl 29)) (.var 9 3 (.int .i64)) 2 (.int .i64)) (.cons (.el (.var 9 1 (.sl 29)) (.var 9 3 (.int .i64)) 3 .str) (.cons (.el (.var 9 1 (.sl 29)) (.var 9 3 (.int .i64)) 4 (.sl 9)) (.cons (.el (.var 9 1 (.sl 29)) (.var 9 3 (.int .i64)) 5 (.sl 29)) .nilA)))))) (.var 9 0 (.sl 29)) (.var 9 1 (.sl 29)) (.var 9 3 (.int .i64)) (.int .i64)
theorem xJ:Pth.allS Tryz.prog e7 9 eG fW (tA.paths []):=
 ⟨Pth.cS ia rfl,
  trivial⟩
theorem vM:Pth.allC Tryz.prog e7 9 eG fW ia (kL.paths []):=
 ⟨Pth.cC ib rfl,Pth.rC,
  trivial⟩
theorem vN:Pth.allC Tryz.prog e7 9 eG fW ib (kM.paths []):=
 ⟨Pth.cC ib rfl,Pth.rC,
  trivial⟩
variable {k:Nat}{G:World->Prop}
set_option maxHeartbeats 4000000
def byt:Nat->Nat|9=>16|29=>88|2=>8|_=>24
def isSl:Kd->Bool|.sl _=>true|_=>false
inductive Bw:Kd->Cl->Prop
 |sc {k:Kd}{c:Cl}:isSl k=false->Bw k c
 |sl {e:Nat}{nl:Bool}{rows:List (List Cl)}:rows.length*byt e<=140737488355328->(∀ r∈rows,∀ (j:Nat) c k,r[j]? = some c->(Sx.row e)[j]? = some k->Bw k c)->Bw (.sl e) (.sl nl rows)
def Bws (ks:List Kd)(cs:List Cl):Prop:=∀ (j:Nat) c k,cs[j]? = some c->ks[j]? = some k->Bw k c
theorem Bw.open {e:Nat}{nl:Bool}{rows:List (List Cl)}(h:Bw (.sl e) (.sl nl rows)):rows.length*byt e<=140737488355328/\∀ r∈rows,Bws (Sx.row e) r:=by
 cases h with
 |sc h=>cases h
 |sl h1 h2=>exact⟨h1,h2⟩
theorem Bws.one {k:Kd}{c:Cl}(h:Bw k c):Bws [k] [c]:=fun j c' k' h1 h2=>by
 cases j with
 |zero=>simp at h1 h2;subst h1;subst h2;exact h
 |succ j=>simp at h1
section
variable {k:Int}{b:Bool}{n:Int}{s:List UInt8}{nl:Bool}{ys:List (List Cl)}{ml:Bool}{rs:List (List Cl)}
theorem bws_ys (h:Bws vK [.int k,.bool b,.int n,.str s,.sl nl ys,.sl ml rs]):Bw (.sl 9) (.sl nl ys):=h 4 _ _ rfl rfl
theorem bws_rs (h:Bws vK [.int k,.bool b,.int n,.str s,.sl nl ys,.sl ml rs]):Bw (.sl 29) (.sl ml rs):=h 5 _ _ rfl rfl
end
def cN (c r:List Cl):Prop:=r.length<=6/\∀ (k:Int)(b:Bool)(n:Int)(s:List UInt8)(nl:Bool)(ys:List (List Cl))(ml:Bool)(rs:List (List Cl)),c=[.int k,.bool b,.int n,.str s,.sl nl ys,.sl ml rs]->∃ ml' rs',r=[.int k,.bool b,.int n,.str s,.sl nl ys,.sl ml' rs']/\az rs'=az rs
def cz (c r:List Cl):Prop:=r.length<=1/\∀ nl rows,c=[.sl nl rows]->∃ nl' rows',r=[.sl nl' rows']/\az rows'=az rows
theorem xK (c:List Cl):∃ r,cN c r:=⟨c.take 6,by simp;omega,by rintro k b n s nl ys ml rs rfl;exact⟨ml,rs,rfl,rfl⟩⟩
theorem oW (c:List Cl):∃ r,cz c r:=⟨c.take 1,by simp;omega,by rintro nl rows rfl;exact⟨nl,rows,rfl,rfl⟩⟩
def eJ (n:Nat)(c:List Cl):Prop:=Bws vK c/\SizeOf.sizeOf c<n
def ff (n:Nat)(c:List Cl):Prop:=Bws [.sl 29] c/\SizeOf.sizeOf c<n
open Classical in
def tbCs (F:List Cl->List Cl)(m:Nat)(f:Nat)(c:List Cl):Cl:=if f=1000000 then .bool (decide (eJ m c)) else (F c).getD f .no
open Classical in
def tbCp (F:List Cl->List Cl)(m:Nat)(f:Nat)(c:List Cl):Cl:=if f=1000000 then .bool (decide (ff m c)) else if f=1000001 then .bool (decide (∃ nl rows,c=[Cl.sl nl rows]/\rows.length*16<=140737488355328)) else if f=10 then c.getD 0 .no else (F c).getD (f-20) .no
open Classical in
theorem copyV {m:Nat}{F:List Cl->List Cl}(hF:∀ c,cz c (F c)):Vc0 (tbCp F m) 9 vC.ks (eJ (m+1)) (fun _ _ _=>True) cN copyt:=by
 rintro cls E hE hw ⟨hB,hm⟩;obtain⟨k,b,n,s,nl,ys,ml,rs,rfl,-⟩:=row6 hw;obtain⟨-,hF2⟩:=hF [.sl ml rs];obtain⟨ml',rs',e,e2⟩:=hF2 ml rs rfl
 have t0:tbCp F m 1000000 [.sl ml rs]=.bool true:=by
  unfold tbCp;rw[if_pos rfl,decide_eq_true];refine⟨Bws.one (bws_rs hB),?_⟩;simp only[List.cons.sizeOf_spec,List.nil.sizeOf_spec,Cl.sl.sizeOf_spec] at hm ⊢;omega
 have t1:tbCp F m 1000001 [.sl nl ys]=.bool true:=by
  unfold tbCp;rw[if_neg (by decide),if_pos rfl,decide_eq_true];exact⟨nl,ys,rfl,(bws_ys hB).open.1⟩
 have t2:tbCp F m 10 [.sl nl ys]=.sl nl ys:=by unfold tbCp;rw[if_neg (by decide),if_neg (by decide),if_pos rfl];rfl
 have t3:tbCp F m 20 [.sl ml rs]=.sl ml' rs':=by unfold tbCp;rw[if_neg (by decide),if_neg (by decide),if_neg (by decide),e];rfl
 simp only[copyt,Tr.vc,To.goodT,List.map_cons,List.map_nil,hE.v,hE.a,X.d_cons,X.d_nil,ak,al,t0,t1,t2,t3,true_and];refine⟨by simp,?_⟩;rintro k b n s nl ys ml rs e3;simp only[List.cons.injEq,Cl.int.injEq,Cl.bool.injEq,Cl.str.injEq,Cl.sl.injEq,and_true] at e3;obtain⟨rfl,rfl,rfl,rfl,⟨rfl,rfl⟩,rfl,rfl⟩:=e3;exact⟨_,_,rfl,e2⟩
def iF (m:Nat)(j:Nat)(c0 c:List Cl):Prop:=∃ nl rows,c0=[.sl nl rows]/\ff (m+1) c0/\
 (j=0->c=[.sl nl rows,.int rows.length])/\
 (j≠0->∃ out i,c=[.sl false out,.sl nl rows,.int rows.length,.int i]/\(out.length:Int)=i/\i<=rows.length/\az out=az (rows.take out.length))
def tB (j:Nat)(c:List Cl):Nat:=match c with
 |[.sl _ rows,_]=>rows.length+1
 |[.sl _ out,.sl _ rows,_,_]=>rows.length-out.length
 |_=>0
theorem vO {out rows:List (List Cl)}{r r':List Cl}{i:Nat}(h:az out=az (rows.take i))(hr:rows[i]? = some r)(he:nrmR r'=nrmR r):az (out++[r'])=az (rows.take (i+1)):=by
 rw[List.take_add_one,hr];simp only[kG] at h ⊢;simp[h,he]
theorem copiesV {m:Nat}{tb:Nat->List Cl->Cl}:Vc0 tb 9 eG.ks (ff (m+1)) (iF m) cz tA:=by
 intro cls E hE hw hp;have hw':Wts [.sl 29] cls:=hw;obtain⟨_,rfl,h1⟩:=hw'.one;obtain⟨nl,rows,rfl,-⟩:=h1.sl_inv;simp only[tA,Tr.vc,To.goodT,List.map_cons,List.map_nil,hE.v,X.c_len,lenC,ak,al,and_true];exact⟨nl,rows,rfl,hp,fun _=>rfl,fun h=>absurd rfl h⟩
open Classical in
theorem qX {m:Nat}{F:List Cl->List Cl}(hF:∀ c,cN c (F c)){nl:Bool}{rows:List (List Cl)}(hp:ff (m+1) [.sl nl rows]){i:Nat}{r:List Cl}(hr:rows[i]? = some r)(hw:Wts vK r) :
  tbCs F m 1000000 [r.getD 0 .no,r.getD 1 .no,r.getD 2 .no,r.getD 3 .no,r.getD 4 .no,r.getD 5 .no]=.bool true/\
  nrmR [tbCs F m 0 [r.getD 0 .no,r.getD 1 .no,r.getD 2 .no,r.getD 3 .no,r.getD 4 .no,r.getD 5 .no],tbCs F m 1 [r.getD 0 .no,r.getD 1 .no,r.getD 2 .no,r.getD 3 .no,r.getD 4 .no,r.getD 5 .no],tbCs F m 2 [r.getD 0 .no,r.getD 1 .no,r.getD 2 .no,r.getD 3 .no,r.getD 4 .no,r.getD 5 .no],tbCs F m 3 [r.getD 0 .no,r.getD 1 .no,r.getD 2 .no,r.getD 3 .no,r.getD 4 .no,r.getD 5 .no],tbCs F m 4 [r.getD 0 .no,r.getD 1 .no,r.getD 2 .no,r.getD 3 .no,r.getD 4 .no,r.getD 5 .no],tbCs F m 5 [r.getD 0 .no,r.getD 1 .no,r.getD 2 .no,r.getD 3 .no,r.getD 4 .no,r.getD 5 .no]]=nrmR r:=by
 obtain⟨k,b,n,s,nl',ys,ml,rs,rfl,-⟩:=row6 hw;obtain⟨hB,hm⟩:=hp;have hmem:=List.mem_of_getElem? hr;obtain⟨ml',rs',e,e2⟩:=(hF [.int k,.bool b,.int n,.str s,.sl nl' ys,.sl ml rs]).2 _ _ _ _ _ _ _ _ rfl;simp only[ak,al];refine⟨?_,?_⟩
 ·unfold tbCs
  rw[if_pos rfl,decide_eq_true];refine⟨((hB 0 _ _ rfl rfl).open.2 _ hmem),?_⟩;have z1:=List.sizeOf_lt_of_mem hmem;simp only[List.cons.sizeOf_spec,List.nil.sizeOf_spec,Cl.sl.sizeOf_spec] at z1 hm ⊢;omega
 ·have t:∀ j,j<6->tbCs F m j [.int k,.bool b,.int n,.str s,.sl nl' ys,.sl ml rs]=[Cl.int k,.bool b,.int n,.str s,.sl nl' ys,.sl ml' rs'].getD j .no:=fun j hj=>by unfold tbCs;rw[if_neg (by omega),e]
  rw[t 0 (by omega),t 1 (by omega),t 2 (by omega),t 3 (by omega),t 4 (by omega),t 5 (by omega)];simp only[ak,al,nrmR,nrm,e2]
theorem copiesV0 {m:Nat}{F:List Cl->List Cl}(hF:∀ c,cN c (F c)):Vc (· < ·) tB (tbCs F m) 9 ia.ks (iF m) cz 0 kL:=by
 rintro c0 cls E hE hw ⟨nl,rows,rfl,hp,hc,-⟩;obtain rfl:=hc rfl;have hw':Wts [.sl 29,.int .i64] [.sl nl rows,.int rows.length]:=hw;obtain⟨_,_,e,h1,_⟩:=hw'.cons_inv;cases e;obtain⟨_,_,e,hlen,-,hrows⟩:=h1.sl_inv;cases e;simp only[maxLen] at hlen;simp only[kL,Tr.vc,To.goodT,List.map_cons,List.map_nil,hE.v,hE.a,X.d_cons,X.d_nil,X.c_int,X.c_bool,X.c_nil,X.c_bin,X.c_len,X.c_inr,X.c_el,X.c_snoc,iT,lenC,inrD,elD,X.kd,aL,cond_true,cond_false,binD,intD,ak,al,Cl.bool.injEq,exists_eq',true_and,and_true,decide_eq_true_eq,decide_eq_false_iff_not];refine⟨fun hlt=>?_,fun hge=>?_⟩
 ·obtain⟨r,hr,hwr,hd,hme⟩:=aE hrows (i:=0) (by omega)
  obtain⟨q1,q2⟩:=qX hF hp hme hwr;have e0:rows.getD (0:Int).toNat []=r:=hr;rw[e0];refine⟨by omega,q1,⟨nl,rows,rfl,hp,fun h=>absurd h (by decide),fun _=>⟨_,_,rfl,?_,by omega,?_⟩⟩,?_⟩
  ·simp
  ·exact vO (out:=[]) (i:=0) (by simp) hme q2
  ·show rows.length-1<rows.length+1
   omega
 ·refine⟨by simp,?_⟩
  rintro nl' rows' e;simp only[List.cons.injEq,Cl.sl.injEq,and_true] at e;obtain⟨rfl,rfl⟩:=e;have:rows=[]:=List.length_eq_zero_iff.1 (by omega);exact⟨_,_,rfl,by rw[this]⟩
theorem copiesV1 {m:Nat}{F:List Cl->List Cl}(hF:∀ c,cN c (F c)):Vc (· < ·) tB (tbCs F m) 9 ib.ks (iF m) cz 1 kM:=by
 rintro c0 cls E hE hw ⟨nl,rows,rfl,hp,-,hc⟩;obtain⟨out,i,rfl,ho,hi,hn⟩:=hc (by decide);have hw':Wts [.sl 29,.sl 29,.int .i64,.int .i64] [.sl false out,.sl nl rows,.int rows.length,.int i]:=hw;obtain⟨_,_,e,_,h2⟩:=hw'.cons_inv;cases e;obtain⟨_,_,e,h1,_⟩:=h2.cons_inv;cases e;obtain⟨_,_,e,hlen,-,hrows⟩:=h1.sl_inv;cases e;simp only[maxLen] at hlen;have hb:rows.length*88<=140737488355328:=(hp.1 0 _ _ rfl rfl).open.1;have h0:0<=i:=by omega
 simp only[kM,Tr.vc,To.goodT,List.map_cons,List.map_nil,hE.v,hE.a,X.d_cons,X.d_nil,X.c_int,X.c_bool,X.c_nil,X.c_bin,X.c_len,X.c_inr,X.c_el,X.c_snoc,iT,lenC,inrD,elD,X.kd,aL,cond_true,cond_false,binD,intD,ak,al,Cl.bool.injEq,exists_eq',true_and,and_true,decide_eq_true_eq,decide_eq_false_iff_not,h0];refine⟨fun hlt=>?_,fun hge=>?_⟩
 ·obtain⟨r,hr,hwr,hd,hme⟩:=aE hrows (i:=i.toNat) (by omega)
  obtain⟨q1,q2⟩:=qX hF hp hme hwr;rw[hr,aH (n:=i+1) (by omega) (by omega)];refine⟨hlt,q1,by omega,⟨nl,rows,rfl,hp,fun h=>absurd h (by decide),fun _=>⟨_,_,rfl,?_,by omega,?_⟩⟩,?_⟩
  ·simp;omega
  ·have eo:i.toNat=out.length:=by omega
   rw[eo] at hme;simpa using vO hn hme q2
  ·show rows.length-(out++[_]).length<rows.length-out.length
   simp;omega
 ·refine⟨by simp,?_⟩
  rintro nl' rows' e;simp only[List.cons.injEq,Cl.sl.injEq,and_true] at e;obtain⟨rfl,rfl⟩:=e;exact⟨_,_,rfl,by rw[hn,List.take_of_length_le (by omega)]⟩
open Classical in
theorem copy_n (hG:Gd0 k G)(hk0:0<k)(hsz:Tryz.prog.globals.size<=k):∀ n,(∃ tb F,vC.Sound Tryz.prog k G tb (eJ n) F/\∀ c,cN c (F c))/\∃ tb F,eG.Sound Tryz.prog k G tb (ff n) F/\∀ c,cz c (F c):=by
 intro n;induction n with
 |zero=>exact⟨⟨fun _ _=>.no,fun c=>(xK c).choose,fun w old hold φ pls cls xs _ _ _ _ _ _ _ hp=>absurd hp.2 (by omega),fun c=>(xK c).choose_spec⟩,
   ⟨fun _ _=>.no,fun c=>(oW c).choose,fun w old hold φ pls cls xs _ _ _ _ _ _ _ hp=>absurd hp.2 (by omega),fun c=>(oW c).choose_spec⟩⟩
 |succ m ih=>
  obtain⟨⟨tb,F,hS,hF⟩,⟨tb2,F2,hS2,hF2⟩⟩:=ih;refine⟨?_,?_⟩
  ·letI:Tb:=⟨some (9,tbCp F2 m)⟩
   obtain⟨F',h1,h2⟩:=Ctr.total (hk:=hkCopy) Nat.lt_wfRel.wf (fun _ _=>0) (fun _ _ _=>True) cN hG (fun D=>@aq.or _ (dcOf D) _ _ _ _ _ _
     (aq.specP xI (fun cls j c h=>by
      have hj:j=0:=by
       have:=(ae.1 h).1
       simp at this;omega
      subst hj
      rw[List.getElem?_take,if_pos (by omega)] at h
      simp[tbCp,List.getD_eq_getElem?_getD,h]) (fun cls h=>by simpa[tbCp] using h) hG hk0 rfl D)
     (@aq.ctr _ (dcOf D) _ _ _ _ 9 (by kernel_rfl) _ _ _ _ hS2 (by kernel_rfl) _ _ (fun cls j c h=>by
      have hj:j=0:=by
       have:=(ae.1 h).1
       have:=(hF2 cls).1
       omega
      subst hj
      simp[tbCp,List.getD_eq_getElem?_getD,h]) (some 1000000) (fun c h=>by simpa[tbCp] using h) hG hk0 hsz rfl))
    hsz (L:=9) (by kernel_rfl) rfl (K:=vC) (cuts:=vL) (trs:=[]) (by kernel_rfl) copyt_ok (copyV hF2) trivial xK
   exact⟨_,F',h1,h2⟩
  ·letI:Tb:=⟨some (9,tbCs F m)⟩
   obtain⟨F',h1,h2⟩:=Ctr.total (hk:=e7) Nat.lt_wfRel.wf tB (iF m) cz hG (fun D =>
     (@aq.ctr _ (dcOf D) _ _ _ _ 9 (by kernel_rfl) _ _ _ _ hS (by kernel_rfl) _ _ (fun cls j c h=>by
      have hj:j<6:=by
       have:=(ae.1 h).1
       have:=(hF cls).1
       omega
      unfold tbCs
      rw[if_neg (by omega),Nat.zero_add,List.getD_eq_getElem?_getD,h];rfl) (some 1000000) (fun c h=>by simpa[tbCs] using h) hG hk0 hsz rfl))
    hsz (L:=9) (by kernel_rfl) rfl (K:=eG) (cuts:=fW) (trs:=[kL,kM]) (by kernel_rfl) xJ copiesV ⟨⟨vM,copiesV0 hF⟩,⟨vN,copiesV1 hF⟩,trivial⟩ oW
   exact⟨_,F',h1,h2⟩
end Go.Proofs.Wo
end

noncomputable section
namespace Go.Proofs.Wo
open Go.Exo Go.Exo.Wo
def gm:List Cl->Bool
 |[.int k,.bool b,.int n,.str s,.sl _ ys,.sl _ rs]=>(k==1 || !b)&&(k==2 || k==6 || k==7 || n==0)&&(k==3 || s.isEmpty)&&(k==5 || ys.isEmpty)&&(k==4 || k==5 || rs.isEmpty)
 |_=>false
def eK (u:List UInt8->Bool):Option (List UInt8)->List (List Cl)->Bool
 |_,[]=>true
 |p,[.str s]::r=>u s&&(match p with|none=>true|some q=>Op.bytesLess q s)&&eK u (some s) r
 |_,_=>false
def mayR (u:List UInt8->Bool):List Cl->Bool
 |[.int k,.bool b,.int n,.str s,.sl nl ys,.sl ml rs]=>
  decide (0<=k)&&decide (k<=7)&&gm [.int k,.bool b,.int n,.str s,.sl nl ys,.sl ml rs] && !((k==6 || k==7)&&decide (n<0))&&u s && !(k==5&&ys.length != rs.length)&&eK u none ys&&rs.attach.all (fun r=>mayR u r.1)
 |_=>false
termination_by r=>SizeOf.sizeOf r
decreasing_by
 have h:=List.sizeOf_lt_of_mem r.2;simp only[List.cons.sizeOf_spec,Cl.sl.sizeOf_spec] at h ⊢;omega
theorem dy (u:List UInt8->Bool)(k:Int)(b:Bool)(n:Int)(s:List UInt8)(nl:Bool)(ys:List (List Cl))(ml:Bool)(rs:List (List Cl)) :
  mayR u [.int k,.bool b,.int n,.str s,.sl nl ys,.sl ml rs]=(decide (0<=k)&&decide (k<=7)&&gm [.int k,.bool b,.int n,.str s,.sl nl ys,.sl ml rs] && !((k==6 || k==7)&&decide (n<0))&&u s && !(k==5&&ys.length != rs.length)&&eK u none ys&&rs.all (mayR u)):=by
 rw[mayR];congr 1;rw[Bool.eq_iff_iff];simp[List.all_eq_true]
abbrev Sz:=Int×Int×Int×Int
abbrev w64 (n:Int):Int:=IntKind.wrap .i64 n
def cD (a b:Sz):Sz:=(w64 (a.1+b.1),if a.2.1<b.2.1 then b.2.1 else a.2.1,w64 (a.2.2.1+b.2.2.1),if a.2.2.2<b.2.2.2 then b.2.2.2 else a.2.2.2)
def bC (n:Int)(r:List Cl):Int:=match r with|[.str s]=>w64 (n+s.length)|_=>n
def szR:List Cl->Sz
 |[.int _,.bool _,.int _,.str s,.sl _ ys,.sl _ rs]=>
  (fun z:Sz=>(z.1,w64 (z.2.1+1),z.2.2.1,z.2.2.2)) (rs.attach.foldl (fun a r=>cD a (szR r.1)) (1,0,ys.foldl bC (s.length:Int),(rs.length:Int)))
 |_=>(0,0,0,0)
termination_by r=>SizeOf.sizeOf r
decreasing_by
 have h:=List.sizeOf_lt_of_mem r.2;simp only[List.cons.sizeOf_spec,Cl.sl.sizeOf_spec] at h ⊢;omega
def szRs (a:Sz)(rs:List (List Cl)):Sz:=rs.foldl (fun a r=>cD a (szR r)) a
theorem oX (k:Int)(b:Bool)(n:Int)(s:List UInt8)(nl:Bool)(ys:List (List Cl))(ml:Bool)(rs:List (List Cl)) :
  szR [.int k,.bool b,.int n,.str s,.sl nl ys,.sl ml rs]=(fun z:Sz=>(z.1,w64 (z.2.1+1),z.2.2.1,z.2.2.2)) (szRs (1,0,ys.foldl bC (s.length:Int),(rs.length:Int)) rs):=by
 rw[szR];congr 1;unfold szRs;rw[List.foldl_subtype (g:=fun a r=>cD a (szR r)) (by intros;rfl)];simp
theorem AN (a:Sz)(rs:List (List Cl))(r:List Cl):szRs a (rs++[r])=cD (szRs a rs) (szR r):=by simp[szRs]
theorem AP {a:Sz}{rs:List (List Cl)}{r:List Cl}{i:Nat}(h:rs[i]? = some r):szRs a (rs.take (i+1))=cD (szRs a (rs.take i)) (szR r):=by
 rw[List.take_add_one,h];exact AN _ _ _
def aI (u:List UInt8->Bool)(r:List Cl):Int:=if mayR u r then (if 64<(szR r).2.1\/1048576<(szR r).2.2.1\/65536<(szR r).2.2.2 then 3 else 0) else 110
theorem xL (a b:Sz):a.2.2.2<=(cD a b).2.2.2/\b.2.2.2<=(cD a b).2.2.2:=by
 unfold cD;simp only;split<;>omega
theorem qY:∀ (rs:List (List Cl))(a:Sz),a.2.2.2<=(szRs a rs).2.2.2/\∀ r∈rs,(szR r).2.2.2<=(szRs a rs).2.2.2
 |[],a=>⟨Int.le_refl _,fun r h=>by cases h⟩
 |q::rs,a=>by
  obtain⟨h1,h2⟩:=qY rs (cD a (szR q));have h3:=xL a (szR q);have e:szRs a (q::rs)=szRs (cD a (szR q)) rs:=rfl;rw[e];refine⟨by omega,fun r hr=>?_⟩;cases hr with
  |head=>omega
  |tail _ hr=>exact h2 r hr
theorem szR_long {k:Int}{b:Bool}{n:Int}{s:List UInt8}{nl:Bool}{ys:List (List Cl)}{ml:Bool}{rs:List (List Cl)} :
  (rs.length:Int)<=(szR [.int k,.bool b,.int n,.str s,.sl nl ys,.sl ml rs]).2.2.2/\∀ r∈rs,(szR r).2.2.2<=(szR [.int k,.bool b,.int n,.str s,.sl nl ys,.sl ml rs]).2.2.2:=by
 rw[oX];exact qY rs _
theorem fits_of (u:List UInt8->Bool):∀ (m:Nat)(r:List Cl),SizeOf.sizeOf r<m->Wts vK r->mayR u r=true->(szR r).2.2.2<=65536->Bws vK r:=by
 intro m;induction m with
 |zero=>intro r h;omega
 |succ m ih=>
  intro r hm hw hmay hl;obtain⟨k,b,n,s,nl,ys,ml,rs,rfl,hl2,-⟩:=row6 hw;obtain⟨q1,q2,q3,q4⟩:=ls2 hl2;rw[dy] at hmay;simp only[Bool.and_eq_true] at hmay;obtain⟨⟨⟨⟨⟨⟨_,hbare⟩,_⟩,_⟩,hmap⟩,_⟩,hkids⟩:=hmay;obtain⟨z1,z2⟩:=szR_long (k:=k) (b:=b) (n:=n) (s:=s) (nl:=nl) (ys:=ys) (ml:=ml) (rs:=rs)
  have hys:ys.length<=rs.length\/ys=[]:=by
   by_cases h5:k=5
   ·subst h5
    simp at hmap;exact .inl (by omega)
   ·right
    simp[gm,h5] at hbare;exact hbare.1.2
  have hyl:ys.length<=65536:=by
   rcases hys with h|h
   ·omega
   ·rw[h];simp
  intro j c kk hc hk
  match j,hc,hk with
  |0,hc,hk=>simp at hc hk;subst hc;subst hk;exact .sc rfl
  |1,hc,hk=>simp at hc hk;subst hc;subst hk;exact .sc rfl
  |2,hc,hk=>simp at hc hk;subst hc;subst hk;exact .sc rfl
  |3,hc,hk=>simp at hc hk;subst hc;subst hk;exact .sc rfl
  |4,hc,hk=>
   simp at hc hk;subst hc;subst hk;refine .sl (by show ys.length*16<=_;omega) fun r hr j c k hc hk=>?_
   match j,hk with
   |0,hk=>have:k=.str:=(by simpa[Sx.row,rowOf,rowsL] using hk.symm);subst this;exact .sc rfl
   |j+1,hk=>simp[Sx.row,rowOf,rowsL] at hk
  |5,hc,hk=>
   simp at hc hk;subst hc;subst hk;refine .sl (by show rs.length*88<=_;omega) fun r hr=>?_
   have hk2:=List.all_eq_true.1 hkids r hr;refine ih r ?_ (q4 r hr) hk2 (by have:=z2 r hr;omega);have h1:=List.sizeOf_lt_of_mem hr;simp only[List.cons.sizeOf_spec,List.nil.sizeOf_spec,Cl.sl.sizeOf_spec] at h1 hm;omega
  |j+6,hc,hk=>simp at hc
theorem xM {u:List UInt8->Bool}{r:List Cl}(hw:Wts vK r)(h:aI u r=0):Bws vK r:=by
 unfold aI at h;by_cases h1:mayR u r=true
 ·rw[if_pos h1] at h
  by_cases h2:64<(szR r).2.1\/1048576<(szR r).2.2.1\/65536<(szR r).2.2.2
  ·rw[if_pos h2] at h;cases h
  ·exact fits_of u _ r (Nat.lt_succ_self _) hw h1 (by omega)
 ·rw[if_neg h1] at h;cases h
end Go.Proofs.Wo
end

noncomputable section
namespace Go.Proofs.Wo
open Go.Exo Go.Exo.Wo
set_option maxRecDepth 100000
variable {k:Nat}{G:World->Prop}
set_option maxHeartbeats 4000000
def dZ (c:List Cl):List Cl:=[.bool (gm c)]
theorem bareX {tb:Nat->List Cl->Cl}:Vc0 tb 9 Kbare.ks (fun _=>True) (fun _ _ _=>True) (fun c r=>r=dZ c) baret:=by
 intro cls E hE hw _;obtain⟨k,b,n,s,nl,ys,ml,rs,rfl,-⟩:=row6 hw;simp only[baret,Tr.vc,To.goodT,List.map_cons,List.map_nil,hE.v,X.c_int,X.c_bool,X.c_str,X.c_bin,X.c_un,X.c_len,lenC,X.kd,binD,intD,strD,unD,ak,al,aL,cond_true,cond_false,Cl.bool.injEq,exists_eq',true_and,and_true,implies_true,List.cons.injEq,dZ,gm];have e1:((ys.length:Int)==0)=ys.isEmpty:=by cases ys<;>simp;omega
 have e2:((rs.length:Int)==0)=rs.isEmpty:=by cases rs<;>simp;omega
 have e3:(s==sB 0 0)=s.isEmpty:=by cases s<;>rfl
 rw[e1,e2,e3];generalize (k==1)=a1;generalize (k==2)=a2;generalize (k==3)=a3;generalize (k==4)=a4;generalize (k==5)=a5;generalize (k==6)=a6;generalize (k==7)=a7;generalize (n==0)=n0;generalize ys.isEmpty=y0;generalize rs.isEmpty=r0;generalize s.isEmpty=s0;clear e1 e2 e3 hE hw;cases a1<;>cases a2<;>cases a3<;>cases a4<;>cases a5<;>cases a6<;>cases a7<;>simp<;>cases n0<;>cases y0<;>cases r0<;>cases s0<;>cases b<;>simp
theorem bare_x (hG:Gd0 k G)(hsz:Tryz.prog.globals.size<=k):∃ tb,Kbare.Sound Tryz.prog k G tb (fun _=>True) dZ:=by
 letI:Tb:=⟨some (9,fun _ _=>.no)⟩
 exact⟨_,Ctr.ofT (hk:=hk0) Nat.lt_wfRel.wf (fun _ _=>0) (fun _ _ _=>True) hG (fun D=>@aq.nil _ (dcOf D) _ _ _ _) hsz (L:=9) (by kernel_rfl) rfl (cuts:=[]) (trs:=[]) (by kernel_rfl) baret_ok bareX trivial⟩
def d6 (c:List Cl):List Cl:=[.int (szR c).1,.int (szR c).2.1,.int (szR c).2.2.1,.int (szR c).2.2.2]
def tbZ (m:Nat)(f:Nat)(c:List Cl):Cl:=if f=1000000 then .bool (decide (SizeOf.sizeOf c<m)) else (d6 c).getD f .no
def vP (m:Nat)(j:Nat)(c0 c:List Cl):Prop:=∃ (i:Nat)(k:Int)(b:Bool)(n:Int)(s:List UInt8)(nl:Bool)(ys:List (List Cl))(ml:Bool)(rs:List (List Cl)),c0=[.int k,.bool b,.int n,.str s,.sl nl ys,.sl ml rs]/\SizeOf.sizeOf c0<m+1/\
 (j=0->i<=ys.length/\c=[.int ((ys.take i).foldl bC s.length),.int rs.length,.int i]++c0)/\
 (j≠0->i<=rs.length/\∃ z,z=szRs (1,0,ys.foldl bC s.length,rs.length) (rs.take i)/\c=[.int z.1,.int z.2.1,.int z.2.2.1,.int z.2.2.2,.int i]++c0)
theorem sizeX {m:Nat}{tb:Nat->List Cl->Cl}:Vc0 tb 9 eZ.ks (fun c=>SizeOf.sizeOf c<m+1) (vP m) (fun c r=>r=d6 c) vH:=by
 intro cls E hE hw hm;obtain⟨k,b,n,s,nl,ys,ml,rs,rfl,-⟩:=row6 hw;simp only[vH,Tr.vc,To.goodT,List.map_cons,List.map_nil,hE.v,X.c_int,X.c_len,lenC,ak,al,and_true];exact⟨0,k,b,n,s,nl,ys,ml,rs,rfl,hm,fun _=>⟨Nat.zero_le _,rfl⟩,fun h=>absurd rfl h⟩
theorem sizeX0 {m:Nat}{tb:Nat->List Cl->Cl}:Vc (· < ·) i7 tb 9 jH.ks (vP m) (fun c r=>r=d6 c) 0 jI:=by
 rintro c0 cls E hE hw ⟨i,k,b,n,s,nl,ys,ml,rs,rfl,hm,hv,-⟩;obtain⟨hi,rfl⟩:=hv rfl;have hw':Wts ([.int .i64,.int .i64,.int .i64]++vK) ([.int ((ys.take i).foldl bC s.length),.int rs.length,.int i]++[.int k,.bool b,.int n,.str s,.sl nl ys,.sl ml rs]):=hw;obtain⟨_,_,e,ha,hb⟩:=ck hw';obtain⟨_,_,rfl,_,h1⟩:=ha.cons_inv;obtain⟨_,_,rfl,_,h2⟩:=h1.cons_inv;obtain⟨_,rfl,_⟩:=h2.one;simp only[List.cons_append,List.nil_append,List.cons.injEq,true_and] at e;obtain⟨-,-,-,rfl⟩:=e;obtain⟨_,_,_,_,_,_,_,_,e,hl,-⟩:=row6 hb;simp only[List.cons.injEq,Cl.int.injEq,Cl.bool.injEq,Cl.str.injEq,Cl.sl.injEq,and_true,true_and] at e;obtain⟨-,-,-,-,⟨-,rfl⟩,-,rfl⟩:=e;obtain⟨q1,q2,q3,q4⟩:=ls2 hl;simp only[maxLen] at q1 q3;have h4:(0:Int)<=(i:Int):=by omega
 simp only[List.cons_append,List.nil_append,jI,Tr.vc,To.goodT,List.map_cons,List.map_nil,hE.v,X.c_int,X.c_bool,X.c_bin,X.c_len,X.c_inr,X.c_el,lenC,inrD,elD,X.kd,aL,cond_true,cond_false,binD,intD,ak,al,Cl.bool.injEq,exists_eq',true_and,and_true,decide_eq_true_eq,decide_eq_false_iff_not,h4,Int.toNat_natCast];refine⟨fun hlt=>⟨hlt,?_⟩,fun hge=>⟨⟨0,k,b,n,s,nl,ys,ml,rs,rfl,hm,fun h=>absurd h (by decide),fun _=>⟨Nat.zero_le _,_,rfl,?_⟩⟩,?_⟩⟩
 ·obtain⟨r,hr,hwr,hd,hme⟩:=aE q2 (i:=i) (by omega)
  obtain⟨_,rfl,hc⟩:=hwr.one;obtain⟨t,rfl,-⟩:=hc.str_inv;rw[hr];simp only[ak];rw[aH (n:=(i:Int)+1) (by omega) (by omega)];refine⟨⟨i+1,k,b,n,s,nl,ys,ml,rs,rfl,hm,fun _=>⟨by omega,?_⟩,fun h=>absurd rfl h⟩,?_⟩
  ·rw[List.take_add_one,hme];simp[bC]
  ·show (ys.length-((i:Int)+1)).toNat+rs.length+1<(ys.length-(i:Int)).toNat+rs.length+1
   omega
 ·rw[List.take_of_length_le (by omega)];rfl
 ·show (rs.length-(0:Int)).toNat<(ys.length-(i:Int)).toNat+rs.length+1
  omega
theorem sizeX1 {m:Nat}:Vc (· < ·) i7 (tbZ m) 9 fU.ks (vP m) (fun c r=>r=d6 c) 1 jJ:=by
 rintro c0 cls E hE hw ⟨i,k,b,n,s,nl,ys,ml,rs,rfl,hm,-,hv⟩;obtain⟨hi,z,hz,rfl⟩:=hv (by decide);have hw':Wts ([.int .i64,.int .i64,.int .i64,.int .i64,.int .i64]++vK) ([.int z.1,.int z.2.1,.int z.2.2.1,.int z.2.2.2,.int i]++[.int k,.bool b,.int n,.str s,.sl nl ys,.sl ml rs]):=hw;obtain⟨_,_,e,ha,hb⟩:=ck hw';obtain⟨_,_,rfl,_,h1⟩:=ha.cons_inv;obtain⟨_,_,rfl,_,h2⟩:=h1.cons_inv;obtain⟨_,_,rfl,_,h3⟩:=h2.cons_inv;obtain⟨_,_,rfl,_,h5⟩:=h3.cons_inv;obtain⟨_,rfl,_⟩:=h5.one;simp only[List.cons_append,List.nil_append,List.cons.injEq,true_and] at e;obtain⟨-,-,-,-,-,rfl⟩:=e;obtain⟨_,_,_,_,_,_,_,_,e,hl,-⟩:=row6 hb;simp only[List.cons.injEq,Cl.int.injEq,Cl.bool.injEq,Cl.str.injEq,Cl.sl.injEq,and_true,true_and] at e;obtain⟨-,-,-,-,⟨-,rfl⟩,-,rfl⟩:=e;obtain⟨q1,q2,q3,q4⟩:=ls2 hl;simp only[maxLen] at q1 q3;have h4:(0:Int)<=(i:Int):=by omega
 simp only[List.cons_append,List.nil_append,jJ,Tr.vc,To.goodT,List.map_cons,List.map_nil,hE.v,hE.a,X.d_cons,X.d_nil,X.c_int,X.c_bool,X.c_bin,X.c_len,X.c_inr,X.c_el,lenC,inrD,elD,X.kd,aL,cond_true,cond_false,binD,intD,ak,al,Cl.bool.injEq,exists_eq',true_and,and_true,decide_eq_true_eq,decide_eq_false_iff_not,h4,Int.toNat_natCast];refine⟨fun hlt=>⟨hlt,?_⟩,fun hge=>?_⟩
 ·obtain⟨r,hr,hwr,hd,hme⟩:=aE q4 (i:=i) (by omega)
  obtain⟨ka,ba,na,sa,nla,ya,mla,ra,rfl,-⟩:=row6 hwr;rw[hr];simp only[ak,al]
  have hsz:SizeOf.sizeOf [Cl.int ka,.bool ba,.int na,.str sa,.sl nla ya,.sl mla ra]<m:=by
   have z1:=List.sizeOf_lt_of_mem (List.mem_of_getElem? hme);simp only[List.cons.sizeOf_spec,List.nil.sizeOf_spec,Cl.sl.sizeOf_spec] at z1 hm ⊢;omega
  generalize hx:szR [Cl.int ka,.bool ba,.int na,.str sa,.sl nla ya,.sl mla ra]=x;have hstep:=AP (a:=(1,0,ys.foldl bC (s.length:Int),(rs.length:Int))) hme;rw[<- hz,hx] at hstep;have t0:∀ j,j<4->tbZ m j [.int ka,.bool ba,.int na,.str sa,.sl nla ya,.sl mla ra]=[Cl.int x.1,.int x.2.1,.int x.2.2.1,.int x.2.2.2].getD j .no:=fun j hj=>by unfold tbZ d6;rw[if_neg (by omega),hx]
  rw[t0 0 (by omega),t0 1 (by omega),t0 2 (by omega),t0 3 (by omega)];simp only[ak,al,Cl.bool.injEq,exists_eq',true_and];rw[aH (n:=(i:Int)+1) (by omega) (by omega)];refine⟨by unfold tbZ;rw[if_pos rfl,decide_eq_true hsz],?_⟩
  have fin:∀ a b' c' d':Int,(a,b',c',d')=cD z x->vP m 1 [.int k,.bool b,.int n,.str s,.sl nl ys,.sl ml rs] [.int a,.int b',.int c',.int d',.int ((i:Int)+1),.int k,.bool b,.int n,.str s,.sl nl ys,.sl ml rs]:=fun a b' c' d' e=>
   ⟨i+1,k,b,n,s,nl,ys,ml,rs,rfl,hm,fun h=>absurd h (by decide),fun _=>⟨by omega,(a,b',c',d'),by rw[hstep,<- e],rfl⟩⟩
  have mea:∀ a b' c' d' a2 b2 c2 d2:Int,i7 1 [.int a,.int b',.int c',.int d',.int ((i:Int)+1),.int k,.bool b,.int n,.str s,.sl nl ys,.sl ml rs]<i7 1 [.int a2,.int b2,.int c2,.int d2,.int (i:Int),.int k,.bool b,.int n,.str s,.sl nl ys,.sl ml rs]:=fun a b' c' d' a2 b2 c2 d2=>by
   show (rs.length-((i:Int)+1)).toNat<(rs.length-(i:Int)).toNat;omega
  exact⟨fun ha=>⟨fun hb=>⟨fin _ _ _ _ (by have ha:=of_decide_eq_true ha;have hb:=of_decide_eq_true hb;simp only[cD];rw[if_pos ha,if_pos hb]),mea _ _ _ _ _ _ _ _⟩,fun hb=>⟨fin _ _ _ _ (by have ha:=of_decide_eq_true ha;have hb:=of_decide_eq_false hb;simp only[cD];rw[if_pos ha,if_neg hb]),mea _ _ _ _ _ _ _ _⟩⟩,fun ha=>⟨fun hb=>⟨fin _ _ _ _ (by have ha:=of_decide_eq_false ha;have hb:=of_decide_eq_true hb;simp only[cD];rw[if_neg ha,if_pos hb]),mea _ _ _ _ _ _ _ _⟩,fun hb=>⟨fin _ _ _ _ (by have ha:=of_decide_eq_false ha;have hb:=of_decide_eq_false hb;simp only[cD];rw[if_neg ha,if_neg hb]),mea _ _ _ _ _ _ _ _⟩⟩⟩
 ·rw[List.take_of_length_le (by omega)] at hz
  unfold d6;rw[oX,<- hz]
theorem size_x (hG:Gd0 k G)(hk0:0<k)(hsz:Tryz.prog.globals.size<=k):∀ n,∃ tb,eZ.Sound Tryz.prog k G tb (fun c=>SizeOf.sizeOf c<n) d6:=by
 intro n;induction n with
 |zero=>exact⟨fun _ _=>.no,fun w old hold φ pls cls xs _ _ _ _ _ _ _ hp=>absurd hp (by omega)⟩
 |succ m ih=>
  obtain⟨tb,hS⟩:=ih
  letI:Tb:=⟨some (9,tbZ m)⟩
  exact⟨_,Ctr.ofT (hk:=jG) Nat.lt_wfRel.wf i7 (vP m) hG (fun D=>@aq.ctr _ (dcOf D) _ _ _ _ 9 (by kernel_rfl) _ _ _ _ hS (by kernel_rfl) _ _ (by
     intro cls j c h
     have hj:j<4:=(ae.1 h).1
     rw[Nat.zero_add]
     unfold tbZ
     rw[if_neg (by omega),List.getD_eq_getElem?_getD,h];rfl) (some 1000000) (by
     intro cls h
     simpa[tbZ] using h) hG hk0 hsz rfl) hsz (L:=9) (by kernel_rfl) rfl (K:=eZ) (cuts:=hQ) (trs:=[jI,jJ]) (by kernel_rfl) vI sizeX ⟨⟨qS,sizeX0⟩,⟨qT,sizeX1⟩,trivial⟩⟩
end Go.Proofs.Wo
end

noncomputable section
namespace Go.Proofs.Wo
open Go.Exo Go.Exo.Wo
set_option maxRecDepth 100000
variable {k:Nat}{G:World->Prop}
set_option maxHeartbeats 4000000
def uOf (Fu:List Cl->List Cl)(s:List UInt8):Bool:=match (Fu [.str s]).getD 0 .no with|.bool b=>b|_=>false
theorem uOf_eq {Fu:List Cl->List Cl}(hu:∀ c,jb c (Fu c))(s:List UInt8):(Fu [.str s]).getD 0 .no=.bool (uOf Fu s):=by
 obtain⟨b,e⟩:=hu [.str s];simp[uOf,e]
def ltO (p:Option (List UInt8))(s:List UInt8):Bool:=match p with|none=>true|some q=>Op.bytesLess q s
theorem oY (u:List UInt8->Bool)(p:Option (List UInt8))(s:List UInt8)(r:List (List Cl)):eK u p ([.str s]::r)=(u s&&ltO p s&&eK u (some s) r):=by
 cases p<;>rfl
def gn (ys:List (List Cl))(i:Nat):Option (List UInt8):=match i with
 |0=>none
 |i+1=>match ys[i]? with|some [.str s]=>some s|_=>none
def qZ (u:List UInt8->Bool)(m:Nat)(j:Nat)(c0 c:List Cl):Prop:=∃ (i:Nat)(k:Int)(b:Bool)(n:Int)(s:List UInt8)(nl:Bool)(ys:List (List Cl))(ml:Bool)(rs:List (List Cl)),c0=[.int k,.bool b,.int n,.str s,.sl nl ys,.sl ml rs]/\SizeOf.sizeOf c0<m+1/\c=.int i::c0/\
 (j=0->i<=ys.length/\mayR u c0=(eK u (gn ys i) (ys.drop i)&&rs.all (mayR u)))/\
 (j≠0->i<=rs.length/\mayR u c0=(rs.drop i).all (mayR u))
theorem mayX {m:Nat}{Fu:List Cl->List Cl}(hu:∀ c,jb c (Fu c)):Vc0 (tbY dZ Fu (fun c=>[.bool (mayR (uOf Fu) c)]) m) 9 Kmay.ks (fun c=>SizeOf.sizeOf c<m+1) (qZ (uOf Fu) m) (fun c r=>r=[.bool (mayR (uOf Fu) c)]) mayt:=by
 intro cls E hE hw hm;obtain⟨k,b,n,s,nl,ys,ml,rs,rfl,hl,-⟩:=row6 hw;obtain⟨q1,q2,q3,q4⟩:=ls2 hl;simp only[maxLen] at q1 q3;have t0:tbY dZ Fu (fun c=>[.bool (mayR (uOf Fu) c)]) m 0 [.int k,.bool b,.int n,.str s,.sl nl ys,.sl ml rs]=.bool (gm [.int k,.bool b,.int n,.str s,.sl nl ys,.sl ml rs]):=by simp[tbY,dZ]
 have t1:tbY dZ Fu (fun c=>[.bool (mayR (uOf Fu) c)]) m 1 [.str s]=.bool (uOf Fu s):=by simpa[tbY] using uOf_eq hu s
 have t2:tbY dZ Fu (fun c=>[.bool (mayR (uOf Fu) c)]) m 1000001 [.str s]=.bool true:=by simp[tbY]
 have e0:=dy (uOf Fu) k b n s nl ys ml rs;have fin:mayR (uOf Fu) [.int k,.bool b,.int n,.str s,.sl nl ys,.sl ml rs]=(eK (uOf Fu) none ys&&rs.all (mayR (uOf Fu)))->qZ (uOf Fu) m 0 [.int k,.bool b,.int n,.str s,.sl nl ys,.sl ml rs] [.int 0,.int k,.bool b,.int n,.str s,.sl nl ys,.sl ml rs]:=fun e=>⟨0,k,b,n,s,nl,ys,ml,rs,rfl,hm,rfl,fun _=>⟨Nat.zero_le _,e⟩,fun h=>absurd rfl h⟩
 simp only[mayt,Tr.vc,To.goodT,List.map_cons,List.map_nil,hE.v,hE.a,X.d_cons,X.d_nil,X.c_int,X.c_bool,X.c_bin,X.c_len,lenC,X.kd,aL,cond_true,cond_false,binD,intD,ak,al,t0,t1,t2,Cl.bool.injEq,exists_eq',true_and,and_true,List.cons.injEq,implies_true,decide_eq_true_eq,decide_eq_false_iff_not];generalize mayR (uOf Fu) [.int k,.bool b,.int n,.str s,.sl nl ys,.sl ml rs]=M at e0 fin ⊢;generalize gm [.int k,.bool b,.int n,.str s,.sl nl ys,.sl ml rs]=B at e0 ⊢;generalize eK (uOf Fu) none ys=Ky at e0 fin;generalize rs.all (mayR (uOf Fu))=Kd at e0 fin;generalize uOf Fu s=U at e0 ⊢;subst e0
 have el:(!((ys.length:Int)==(rs.length:Int)))=(ys.length != rs.length):=by
  rw[Bool.eq_iff_iff];simp;omega
 rw[el];refine⟨fun h=>by simp[show ¬ 0<=k by omega],fun h=>⟨fun h2=>by simp[show ¬ k<=7 by omega],fun h2=>?_⟩⟩;have d1:decide (0<=k)=true:=decide_eq_true (by omega);have d2:decide (k<=7)=true:=decide_eq_true (by omega);rw[d1,d2] at fin ⊢;have g6:(k==6)=true->(k==5)=false:=by simp;omega
 have g7:(k==7)=true->(k==5)=false:=by simp;omega
 generalize (k==5)=a5 at fin g6 g7 ⊢;generalize (k==6)=a6 at fin g6 ⊢;generalize (k==7)=a7 at fin g7 ⊢;generalize (ys.length != rs.length)=L at fin ⊢;clear el d1 d2 t0 t1 t2 hE hw hl hm;refine⟨fun h3=>⟨fun h4=>⟨fun h5=>by simp[h4,h5],fun h5=>⟨fun h6=>fin (by simp[h3,h4,h5,h6,g6 h4]),fun h6=>by simp[h6]⟩⟩,fun h4=>⟨fun h5=>⟨fun h6=>by simp[h5,h6],fun h6=>⟨fun h7=>fin (by simp[h3,h5,h6,h7,g7 h5]),fun h7=>by simp[h7]⟩⟩,fun h5=>⟨fun h6=>⟨fun h7=>⟨fun h8=>by simp[h7,h8],fun h8=>fin (by simp[h3,h4,h5,h6,h7,h8])⟩,fun h7=>fin (by simp[h3,h4,h5,h6,h7])⟩,fun h6=>by simp[h6]⟩⟩⟩,fun h3=>by simp[h3]⟩
theorem mayX0 {m:Nat}{Fu:List Cl->List Cl}(hu:∀ c,jb c (Fu c)):Vc (· < ·) mayM (tbY dZ Fu (fun c=>[.bool (mayR (uOf Fu) c)]) m) 9 ja.ks (qZ (uOf Fu) m) (fun c r=>r=[.bool (mayR (uOf Fu) c)]) 0 mayt0:=by
 rintro c0 cls E hE hw ⟨i,k,b,n,s,nl,ys,ml,rs,rfl,hm,rfl,hv,-⟩;obtain⟨hi,hM⟩:=hv rfl;have hw':Wts (.int .i64::vK) (.int i::[.int k,.bool b,.int n,.str s,.sl nl ys,.sl ml rs]):=hw;obtain⟨_,_,e,_,hb⟩:=hw'.cons_inv;simp only[List.cons.injEq] at e;obtain⟨-,rfl⟩:=e;obtain⟨_,_,_,_,_,_,_,_,e,hl,-⟩:=row6 hb;simp only[List.cons.injEq,Cl.int.injEq,Cl.bool.injEq,Cl.str.injEq,Cl.sl.injEq,and_true,true_and] at e;obtain⟨-,-,-,-,⟨-,rfl⟩,-,rfl⟩:=e;obtain⟨q1,q2,q3,q4⟩:=ls2 hl;simp only[maxLen] at q1 q3;have h4:(0:Int)<=(i:Int):=by omega
 simp only[mayt0,Tr.vc,To.goodT,List.map_cons,List.map_nil,hE.v,hE.a,X.d_cons,X.d_nil,X.c_int,X.c_bool,X.c_bin,X.c_len,X.c_inr,X.c_el,lenC,inrD,elD,X.kd,aL,cond_true,cond_false,binD,intD,ak,al,Cl.bool.injEq,exists_eq',true_and,and_true,decide_eq_true_eq,decide_eq_false_iff_not,h4,Int.toNat_natCast,List.cons.injEq];refine⟨fun hlt=>⟨hlt,?_⟩,fun hge=>⟨⟨0,k,b,n,s,nl,ys,ml,rs,rfl,hm,rfl,fun h=>absurd h (by decide),fun _=>⟨Nat.zero_le _,?_⟩⟩,?_⟩⟩
 ·obtain⟨r,hr,hwr,hd,hme⟩:=aE q2 (i:=i) (by omega)
  obtain⟨_,rfl,hc⟩:=hwr.one;obtain⟨t,rfl,-⟩:=hc.str_inv;have t1:tbY dZ Fu (fun c=>[.bool (mayR (uOf Fu) c)]) m 1 [.str t]=.bool (uOf Fu t):=by simpa[tbY] using uOf_eq hu t
  have t2:tbY dZ Fu (fun c=>[.bool (mayR (uOf Fu) c)]) m 1000001 [.str t]=.bool true:=by simp[tbY]
  rw[hr];simp only[ak,t1,t2,Cl.bool.injEq,exists_eq',true_and]
  have hdr:ys.drop i=[.str t]::ys.drop (i+1):=by
   obtain⟨hlt',e⟩:=ae.1 hme;rw[List.drop_eq_getElem_cons hlt',e]
  have hpk:gn ys (i+1)=some t:=by simp[gn,hme]
  rw[hdr,oY] at hM;rw[aH (n:=(i:Int)+1) (by omega) (by omega)]
  have fin:uOf Fu t=true->ltO (gn ys i) t=true->qZ (uOf Fu) m 0 [.int k,.bool b,.int n,.str s,.sl nl ys,.sl ml rs] [.int ((i:Int)+1),.int k,.bool b,.int n,.str s,.sl nl ys,.sl ml rs]:=fun x1 x2=>
   ⟨i+1,k,b,n,s,nl,ys,ml,rs,rfl,hm,rfl,fun _=>⟨by omega,by rw[hM,hpk,x1,x2];rfl⟩,fun h=>absurd rfl h⟩
  have mea:mayM 0 [.int ((i:Int)+1),.int k,.bool b,.int n,.str s,.sl nl ys,.sl ml rs]<mayM 0 [.int (i:Int),.int k,.bool b,.int n,.str s,.sl nl ys,.sl ml rs]:=by
   show (ys.length-((i:Int)+1)).toNat+rs.length+1<(ys.length-(i:Int)).toNat+rs.length+1;omega
  refine⟨fun x1=>⟨fun hp=>?_,fun hp=>⟨fin x1 ?_,mea⟩⟩,fun x1=>by rw[hM,x1];simp⟩
  ·rw[aH (n:=(i:Int)-1) (by omega) (by omega)]
   obtain⟨r',hr',hwr',_,hme'⟩:=aE q2 (i:=((i:Int)-1).toNat) (by omega);obtain⟨_,rfl,hc'⟩:=hwr'.one;obtain⟨t',rfl,-⟩:=hc'.str_inv;rw[hr']
   have hpv:gn ys i=some t':=by
    obtain⟨i',rfl⟩:∃ i',i=i'+1:=⟨i-1,by omega⟩
    have:(((i'+1:Nat):Int)-1).toNat=i':=by omega
    rw[this] at hme';simp[gn,hme']
   simp only[ak,strD,Cl.bool.injEq,exists_eq',true_and];rw[hpv] at hM fin;refine⟨⟨by omega,by omega⟩,fun x2=>?_,fun x2=>⟨fin x1 ?_,mea⟩⟩
   ·have x3:ltO (some t') t=false:=by simpa[ltO] using x2
    rw[hM,x3];simp
   ·simpa[ltO] using x2
  ·have:i=0:=by omega
   subst this;rfl
 ·rw[hM,List.drop_of_length_le (by omega)];simp[eK]
 ·show (rs.length-(0:Int)).toNat<(ys.length-(i:Int)).toNat+rs.length+1
  omega
theorem mayX1 {m:Nat}{Fu:List Cl->List Cl}:Vc (· < ·) mayM (tbY dZ Fu (fun c=>[.bool (mayR (uOf Fu) c)]) m) 9 vJ.ks (qZ (uOf Fu) m) (fun c r=>r=[.bool (mayR (uOf Fu) c)]) 1 mayt1:=by
 rintro c0 cls E hE hw ⟨i,k,b,n,s,nl,ys,ml,rs,rfl,hm,rfl,-,hv⟩;obtain⟨hi,hM⟩:=hv (by decide);have hw':Wts (.int .i64::vK) (.int i::[.int k,.bool b,.int n,.str s,.sl nl ys,.sl ml rs]):=hw;obtain⟨_,_,e,_,hb⟩:=hw'.cons_inv;simp only[List.cons.injEq] at e;obtain⟨-,rfl⟩:=e;obtain⟨_,_,_,_,_,_,_,_,e,hl,-⟩:=row6 hb;simp only[List.cons.injEq,Cl.int.injEq,Cl.bool.injEq,Cl.str.injEq,Cl.sl.injEq,and_true,true_and] at e;obtain⟨-,-,-,-,⟨-,rfl⟩,-,rfl⟩:=e;obtain⟨q1,q2,q3,q4⟩:=ls2 hl;simp only[maxLen] at q1 q3;have h4:(0:Int)<=(i:Int):=by omega
 simp only[mayt1,Tr.vc,To.goodT,List.map_cons,List.map_nil,hE.v,hE.a,X.d_cons,X.d_nil,X.c_int,X.c_bool,X.c_bin,X.c_len,X.c_inr,X.c_el,lenC,inrD,elD,X.kd,aL,cond_true,cond_false,binD,intD,ak,al,Cl.bool.injEq,exists_eq',true_and,and_true,decide_eq_true_eq,decide_eq_false_iff_not,h4,Int.toNat_natCast,List.cons.injEq];refine⟨fun hlt=>⟨hlt,?_⟩,fun hge=>?_⟩
 ·obtain⟨r,hr,hwr,hd,hme⟩:=aE q4 (i:=i) (by omega)
  obtain⟨ka,ba,na,sa,nla,ya,mla,ra,rfl,-⟩:=row6 hwr;rw[hr];simp only[ak,al]
  have hsz:SizeOf.sizeOf [Cl.int ka,.bool ba,.int na,.str sa,.sl nla ya,.sl mla ra]<m:=by
   have z1:=List.sizeOf_lt_of_mem (List.mem_of_getElem? hme);simp only[List.cons.sizeOf_spec,List.nil.sizeOf_spec,Cl.sl.sizeOf_spec] at z1 hm ⊢;omega
  have hdr:rs.drop i=[Cl.int ka,.bool ba,.int na,.str sa,.sl nla ya,.sl mla ra]::rs.drop (i+1):=by
   obtain⟨hlt',e⟩:=ae.1 hme;rw[List.drop_eq_getElem_cons hlt',e]
  rw[hdr,List.all_cons] at hM;have t0:tbY dZ Fu (fun c=>[.bool (mayR (uOf Fu) c)]) m 2 [.int ka,.bool ba,.int na,.str sa,.sl nla ya,.sl mla ra]=.bool (mayR (uOf Fu) [.int ka,.bool ba,.int na,.str sa,.sl nla ya,.sl mla ra]):=by simp[tbY]
  rw[t0];simp only[Cl.bool.injEq,exists_eq',true_and];rw[aH (n:=(i:Int)+1) (by omega) (by omega)];refine⟨by unfold tbY;rw[if_pos rfl,decide_eq_true hsz],fun x1=>⟨⟨i+1,k,b,n,s,nl,ys,ml,rs,rfl,hm,rfl,fun h=>absurd h (by decide),fun _=>⟨by omega,by rw[hM,x1];rfl⟩⟩,?_⟩,fun x1=>by rw[hM,x1];rfl⟩;show (rs.length-((i:Int)+1)).toNat<(rs.length-(i:Int)).toNat;omega
 ·rw[hM,List.drop_of_length_le (by omega)];rfl
theorem sizeF4 (c:List Cl):Int4 c (d6 c):=⟨_,_,_,_,rfl⟩
theorem checkX {m:Nat}{u:List UInt8->Bool}:Vc0 (tbC (fun c=>[.bool (mayR u c)]) d6 m) 9 oK.ks (fun c=>SizeOf.sizeOf c<m) (fun _ _ _=>True) (fun c r=>r=[.int (aI u c)]) xG:=by
 intro cls E hE hw hm;obtain⟨k,b,n,s,nl,ys,ml,rs,rfl,-⟩:=row6 hw;have t0:tbC (fun c=>[.bool (mayR u c)]) d6 m 0 [.int k,.bool b,.int n,.str s,.sl nl ys,.sl ml rs]=.bool (mayR u [.int k,.bool b,.int n,.str s,.sl nl ys,.sl ml rs]):=by simp[tbC]
 generalize hx:szR [.int k,.bool b,.int n,.str s,.sl nl ys,.sl ml rs]=x;have t1:∀ j,j<4->tbC (fun c=>[.bool (mayR u c)]) d6 m (j+1) [.int k,.bool b,.int n,.str s,.sl nl ys,.sl ml rs]=[Cl.int x.1,.int x.2.1,.int x.2.2.1,.int x.2.2.2].getD j .no:=fun j hj=>by unfold tbC d6;rw[if_neg (by omega),if_neg (by omega),if_neg (by omega),hx];rfl
 have t2:tbC (fun c=>[.bool (mayR u c)]) d6 m 1000000 [.int k,.bool b,.int n,.str s,.sl nl ys,.sl ml rs]=.bool true:=by unfold tbC;rw[if_pos rfl,decide_eq_true hm]
 have t3:tbC (fun c=>[.bool (mayR u c)]) d6 m 1000001 [.int k,.bool b,.int n,.str s,.sl nl ys,.sl ml rs]=.bool true:=by unfold tbC;rw[if_neg (by decide),if_pos rfl,decide_eq_true hm]
 have u1:=t1 1 (by omega);have u2:=t1 2 (by omega);have u3:=t1 3 (by omega);simp only[xG,Tr.vc,To.goodT,List.map_cons,List.map_nil,hE.v,hE.a,X.d_cons,X.d_nil,X.c_int,X.c_bool,X.c_bin,X.kd,aL,cond_true,cond_false,binD,intD,ak,al,t0,t2,t3,u1,u2,u3,Nat.reduceAdd,Cl.bool.injEq,exists_eq',true_and,and_true,List.cons.injEq,implies_true,Cl.int.injEq,decide_eq_true_eq,decide_eq_false_iff_not];unfold aI;rw[hx];refine⟨fun h1=>⟨fun h2=>?_,fun h2=>⟨fun h3=>?_,fun h3=>⟨fun h4=>?_,fun h4=>?_⟩⟩⟩,fun h1=>?_⟩
 ·rw[if_pos h1,if_pos (.inl h2)]
 ·rw[if_pos h1,if_pos (.inr (.inl h3))]
 ·rw[if_pos h1,if_pos (.inr (.inr h4))]
 ·rw[if_pos h1,if_neg (by omega)]
 ·rw[h1];rfl
end Go.Proofs.Wo
end

noncomputable section
namespace Go.Proofs.Wo
open Go.Exo Go.Exo.Wo Go.Lib
set_option maxRecDepth 100000
variable {k:Nat}{G:World->Prop}
theorem tC (c:List Cl):jb c (dY c):=by unfold dY;split<;>exact⟨_,rfl⟩
theorem uOf_utf:uOf dY=validD:=by funext s;rfl
theorem may_v (hG:Gd0 k G)(hk0:0<k)(hsz:Tryz.prog.globals.size<=k):∀ n,∃ tb,Kmay.Sound Tryz.prog k G tb (fun c=>SizeOf.sizeOf c<n) (fun c=>[.bool (mayR validD c)]):=by
 obtain⟨tbb,hSb⟩:=bare_x hG hsz;obtain⟨tbu,hSu⟩:=utf_x hG hk0 hsz;rw[<- uOf_utf];intro n;induction n with
 |zero=>exact⟨fun _ _=>.no,fun w old hold φ pls cls xs _ _ _ _ _ _ _ hp=>absurd hp (by omega)⟩
 |succ m ih=>
  obtain⟨tb,hS⟩:=ih
  letI:Tb:=⟨some (9,tbY dZ dY (fun c=>[.bool (mayR (uOf dY) c)]) m)⟩
  exact⟨_,Ctr.ofT (hk:=qJ) Nat.lt_wfRel.wf mayM (qZ (uOf dY) m) hG (fun D=>@aq.or _ (dcOf D) _ _ _ _ _ _
    (@aq.ctr _ (dcOf D) _ _ _ _ 9 (by kernel_rfl) _ _ _ _ hSb (by kernel_rfl) _ _ (hfn1 (fun c=>⟨_,rfl⟩) (fun c=>by simp[tbY,dZ])) none (fun _=>trivial) hG hk0 hsz rfl)
    (@aq.or _ (dcOf D) _ _ _ _ _ _
     (@aq.ctr _ (dcOf D) _ _ _ _ 9 (by kernel_rfl) _ _ _ _ hSu (by kernel_rfl) _ _ (hfn1 tC (fun c=>by simp[tbY])) (some 1000001) (fun _ _=>trivial) hG hk0 hsz rfl)
     (@aq.ctr _ (dcOf D) _ _ _ _ 9 (by kernel_rfl) _ _ _ _ hS (by kernel_rfl) _ _ (hfn1 (fun c=>⟨_,rfl⟩) (fun c=>by simp[tbY])) (some 1000000) (fun c h=>by simpa[tbY] using h) hG hk0 hsz rfl)))
   hsz (L:=9) (by kernel_rfl) rfl (K:=Kmay) (cuts:=m8) (trs:=[mayt0,mayt1]) (by kernel_rfl) mayt_ok (mayX tC) ⟨⟨mayt0_ok,mayX0 tC⟩,⟨mayt1_ok,mayX1⟩,trivial⟩⟩
theorem check_v (hG:Gd0 k G)(hk0:0<k)(hsz:Tryz.prog.globals.size<=k)(m:Nat):∃ tb,oK.Sound Tryz.prog k G tb (fun c=>SizeOf.sizeOf c<m) (fun c=>[.int (aI validD c)]):=by
 obtain⟨tbm,hSm⟩:=may_v hG hk0 hsz m;obtain⟨tbs,hSs⟩:=size_x hG hk0 hsz m
 letI:Tb:=⟨some (9,tbC (fun c=>[.bool (mayR validD c)]) d6 m)⟩
 exact⟨_,Ctr.ofT (hk:=zp) Nat.lt_wfRel.wf (fun _ _=>0) (fun _ _ _=>True) hG (fun D=>@aq.or _ (dcOf D) _ _ _ _ _ _
    (@aq.ctr _ (dcOf D) _ _ _ _ 9 (by kernel_rfl) _ _ _ _ hSm (by kernel_rfl) _ _ (hfn1 (fun c=>⟨_,rfl⟩) (fun c=>by simp[tbC])) (some 1000000) (fun c h=>by simpa[tbC] using h) hG hk0 hsz rfl)
    (@aq.ctr _ (dcOf D) _ _ _ _ 9 (by kernel_rfl) _ _ _ _ hSs (by kernel_rfl) _ _ (hfn4 sizeF4 (fun j hj c=>by unfold tbC;rw[if_neg (by omega),if_neg (by omega),if_neg (by omega),show 1+j-1=j by omega])) (some 1000001) (fun c h=>by simpa[tbC] using h) hG hk0 hsz rfl))
   hsz (L:=9) (by kernel_rfl) rfl (K:=oK) (cuts:=qU) (trs:=[]) (by kernel_rfl) AL checkX trivial⟩
end Go.Proofs.Wo
end

noncomputable section
namespace Go.Proofs.Wo
open Go.Exo Go.Exo.Wo Go.Lib
set_option maxRecDepth 100000
def AQ:List Ct:=[]
def xN:Tr:=(fun(a b c d e f g h:X)=>.ask (.bin .eql f (.int .i64 (1))) (.ask e (.leaf 36 (.ret [] [a])) (.ask d (.leaf 36 (.ret [] [a])) (.ask c (.leaf 36 (.ret [] [a])) (.leaf 36 (.ret [] [b]))))) (.ask (.bin .eql f (.int .i64 (6))) (.ask h (.leaf 44 (.ret [] [a])) (.ask g (.leaf 49 (.ret [] [a])) (.ask d (.leaf 49 (.ret [] [a])) (.ask c (.leaf 49 (.ret [] [a])) (.leaf 49 (.ret [] [b])))))) (.ask (.bin .eql f (.int .i64 (7))) (.ask h (.leaf 44 (.ret [] [a])) (.ask g (.leaf 49 (.ret [] [a])) (.ask d (.leaf 49 (.ret [] [a])) (.ask c (.leaf 49 (.ret [] [a])) (.leaf 49 (.ret [] [b])))))) (.ask (.bin .eql f (.int .i64 (2))) (.ask g (.leaf 49 (.ret [] [a])) (.ask d (.leaf 49 (.ret [] [a])) (.ask c (.leaf 49 (.ret [] [a])) (.leaf 49 (.ret [] [b]))))) (.ask (.bin .eql f (.int .i64 (3))) (.ask g (.leaf 54 (.ret [] [a])) (.ask e (.leaf 54 (.ret [] [a])) (.ask c (.leaf 54 (.ret [] [a])) (.leaf 54 (.ret [] [b]))))) (.ask (.bin .eql f (.int .i64 (5))) (.ask g (.leaf 61 (.ret [] [a])) (.ask e (.leaf 61 (.ret [] [a])) (.ask d (.leaf 61 (.ret [] [a])) (.leaf 61 (.ret [] [(.bool true)]))))) (.ask (.bin .eql f (.int .i64 (4))) (.ask g (.leaf 64 (.ret [] [a])) (.ask e (.leaf 64 (.ret [] [a])) (.ask d (.leaf 64 (.ret [] [a])) (.ask c (.leaf 64 (.ret [] [a])) (.leaf 64 (.ret [] [(.bool true)])))))) (.ask (.bin .eql f (.int .i64 (0))) (.ask g (.leaf 66 (.ret [] [a])) (.ask e (.leaf 66 (.ret [] [a])) (.ask d (.leaf 66 (.ret [] [a])) (.ask c (.leaf 66 (.ret [] [a])) (.leaf 66 (.ret [] [b])))))) (.leaf 67 (.ret [] [a])))))))))) (.bool false) (.un .not (.bin .gtr (.len (.var 9 5 (.sl 29))) (.int .i64 (0)))) (.bin .gtr (.len (.var 9 4 (.sl 9))) (.int .i64 (0))) (.bin .neq (.var 9 3 .str) (.str 0 0)) (.bin .neq (.var 9 2 (.int .i64)) (.int .i64 (0))) (.var 9 0 (.int .i64)) (.var 9 1 .bool) (.bin .lss (.var 9 2 (.int .i64)) (.int .i64 (0)))
theorem AR:Pth.allS Tryz.prog hk0 9 te AQ (xN.paths []):=
 ⟨Pth.rS,Pth.rS,Pth.rS,Pth.rS,Pth.rS,Pth.rS,Pth.rS,Pth.rS,Pth.rS,Pth.rS,Pth.rS,Pth.rS,Pth.rS,Pth.rS,Pth.rS,Pth.rS,Pth.rS,Pth.rS,Pth.rS,Pth.rS,Pth.rS,Pth.rS,Pth.rS,Pth.rS,Pth.rS,Pth.rS,Pth.rS,Pth.rS,Pth.rS,Pth.rS,Pth.rS,Pth.rS,Pth.rS,Pth.rS,Pth.rS,Pth.rS,Pth.rS,
  trivial⟩
def jK:Ct:=(fun(d:X)(a b c:Kd)=>(⟨bf (outS Tryz.prog tf 9 qN [((.app 9 0 (.cons (.var 9 0 a) (.cons (.var 9 1 .bool) (.cons (.var 9 2 a) (.cons d (.cons (.var 9 4 b) (.cons (.var 9 5 c) .nilA)))))) .bool),true),((.app 9 1 (.cons d .nilA) .bool),true),((.bin .eql (.var 9 0 a) (.int .i64 (5))),true),((.bin .neq (.len (.var 9 4 b)) (.len (.var 9 5 c))),false)] 14),[.junk,.ptr 10 0,.junk,.junk,.junk,.junk,.junk,.junk,.junk,.junk,.junk,.junk,.junk,.junk,.junk,.junk,.junk,.junk,.junk,.junk,.junk,.junk,.junk,.junk,.junk,.junk,.junk,.junk,.junk,.x (.var 9 0 b),.x (.var 9 1 a),.x (.var 9 2 a),.junk,.junk,.junk,.junk,.junk,.junk,.junk,.junk,.junk,.junk,.junk,.junk,.junk,.junk,.junk,.junk,.junk,.junk,.junk,.junk,.junk,.junk],[some (.cells 29 [.x (.var 9 3 a),.x (.var 9 4 .bool),.x (.var 9 5 a),.x (.var 9 6 .str),.x (.var 9 0 b),.x (.var 9 7 c)] 0 false)],[b,a,a,a,.bool,a,.str,c]⟩:Ct)) (.var 9 3 .str) (.int .i64) (.sl 9) (.sl 29)
def vQ:List Ct:=[jK]
def pmayt:Tr:=(fun(a b c d e f g h:X)=>.ask (.app 9 0 (.cons b (.cons f (.cons d (.cons e (.cons a (.cons c .nilA)))))) .bool) (.ask (.app 9 1 (.cons e .nilA) .bool) (.ask (.bin .eql b (.int .i64 (5))) (.ask (.bin .neq (.len a) (.len c)) (.leaf 11 (.ret [] [g])) (.leaf 14 (.cut 0 [10] [a,(.len a),h,b,f,d,e,c]))) (.leaf 14 (.cut 0 [10] [a,(.len a),h,b,f,d,e,c]))) (.leaf 11 (.ret [] [g]))) (.leaf 10 (.ret [] [g]))) (.var 9 4 (.sl 9)) (.var 9 0 (.int .i64)) (.var 9 5 (.sl 29)) (.var 9 2 (.int .i64)) (.var 9 3 .str) (.var 9 1 .bool) (.bool false) (.int .i64 (0))
def tD:Tr:=(fun(a b d e f g h:X)(c:Kd)=>.ask (.bin .lss a f) (.must (.inr a (.len b)) true <| .ask (.app 9 1 (.cons (.el b a 0 .str) .nilA) .bool) (.ask (.bin .gtr a (.int .i64 (0))) (.must (.inr (.bin .sub a d) (.len b)) true <| .ask (.bin .geq (.el b (.bin .sub a d) 0 .str) (.el b a 0 .str)) (.leaf 16 (.ret [] [(.bool false)])) (.leaf 17 (.cut 0 [10] [b,f,(.bin .add a d),(.var 9 3 c),g,(.var 9 5 c),h,e]))) (.leaf 17 (.cut 0 [10] [b,f,(.bin .add a d),(.var 9 3 c),g,(.var 9 5 c),h,e]))) (.leaf 16 (.ret [] [(.bool false)]))) (.leaf 8 (.ret [] [(.bool true)]))) (.var 9 2 (.int .i64)) (.var 9 0 (.sl 9)) (.int .i64 (1)) (.var 9 7 (.sl 29)) (.var 9 1 (.int .i64)) (.var 9 4 .bool) (.var 9 6 .str) (.int .i64)
theorem pmayt_ok:Pth.allS Tryz.prog tf 9 qN vQ (pmayt.paths []):=
 ⟨Pth.rS,Pth.cS jK rfl,Pth.cS jK rfl,Pth.rS,Pth.rS,
  trivial⟩
theorem AS:Pth.allC Tryz.prog tf 9 qN vQ jK (tD.paths []):=
 ⟨Pth.rC,Pth.cC jK rfl,Pth.cC jK rfl,Pth.rC,Pth.rC,
  trivial⟩
variable {k:Nat}{G:World->Prop}
def pbB:List Cl->Bool
 |[.int k,.bool b,.int n,.str s,.sl nl ys,.sl ml rs]=>decide (0<=k)&&decide (k<=7)&&gm [.int k,.bool b,.int n,.str s,.sl nl ys,.sl ml rs] && !((k==6 || k==7)&&decide (n<0))
 |_=>true
def lO (c:List Cl):List Cl:=[.bool (pbB c)]
def mayB (u:List UInt8->Bool):List Cl->Bool
 |[.int k,.bool b,.int n,.str s,.sl nl ys,.sl ml rs]=>pbB [.int k,.bool b,.int n,.str s,.sl nl ys,.sl ml rs]&&u s && !(k==5&&ys.length != rs.length)&&eK u none ys
 |_=>true
theorem mayR_B (u:List UInt8->Bool)(k:Int)(b:Bool)(n:Int)(s:List UInt8)(nl:Bool)(ys:List (List Cl))(ml:Bool)(rs:List (List Cl)) :
  mayR u [.int k,.bool b,.int n,.str s,.sl nl ys,.sl ml rs]=(mayB u [.int k,.bool b,.int n,.str s,.sl nl ys,.sl ml rs]&&rs.all (mayR u)):=by
 rw[dy];rfl
set_option maxHeartbeats 4000000 in
theorem pbareV {tb:Nat->List Cl->Cl}:Vc0 tb 9 te.ks (fun _=>True) (fun _ _ _=>True) (fun c r=>r=lO c) xN:=by
 intro cls E hE hw _;obtain⟨k,b,n,s,nl,ys,ml,rs,rfl,-⟩:=row6 hw;have hs:((s==([]:List UInt8))=false)=¬ (s=[]):=by simp
 simp only[xN,Tr.vc,To.goodT,List.map_cons,List.map_nil,hE.v,X.c_int,X.c_bool,X.c_str,X.c_bin,X.c_un,X.c_len,lenC,X.kd,binD,intD,strD,unD,ak,al,aL,cond_true,cond_false,Cl.bool.injEq,exists_eq',true_and,and_true,List.cons.injEq,lO,beq_iff_eq,beq_eq_false_iff_ne,ne_eq,decide_eq_true_eq,decide_eq_false_iff_not,Bool.not_eq_true',Bool.not_eq_false',sB,pbB,gm]
 repeat' (first|(refine⟨?_,?_⟩)|intro _)
 all_goals (subst_vars;simp_all [List.isEmpty_iff,List.length_pos_iff])
 all_goals (cases rs<;>simp<;>first|assumption|(intros;omega))
theorem pbare_x (hG:Gd0 k G)(hsz:Tryz.prog.globals.size<=k):∃ tb,te.Sound Tryz.prog k G tb (fun _=>True) lO:=by
 letI:Tb:=⟨some (9,fun _ _=>.no)⟩
 exact⟨_,Ctr.ofT (hk:=hk0) Nat.lt_wfRel.wf (fun _ _=>0) (fun _ _ _=>True) hG (fun D=>@aq.nil _ (dcOf D) _ _ _ _) hsz (L:=9) (by kernel_rfl) rfl (trs:=[]) (by kernel_rfl) AR pbareV trivial⟩
def tbPm (f:Nat)(c:List Cl):Cl:=if f=0 then (lO c).getD 0 .no else (dY c).getD 0 .no
def oZ (c:List Cl):List Cl:=[.bool (mayB validD c)]
def kN (_:Nat)(c0 c:List Cl):Prop:=∃ (i:Nat)(k:Int)(b:Bool)(n:Int)(s:List UInt8)(nl:Bool)(ys:List (List Cl))(ml:Bool)(rs:List (List Cl)),c0=[.int k,.bool b,.int n,.str s,.sl nl ys,.sl ml rs]/\c=[.sl nl ys,.int ys.length,.int i,.int k,.bool b,.int n,.str s,.sl ml rs]/\i<=ys.length/\mayB validD c0=eK validD (gn ys i) (ys.drop i)
def pmayM (_:Nat)(c:List Cl):Nat:=match c with|_::.int l::.int i::_=>(l-i).toNat|_=>0
theorem pmayV:Vc0 tbPm 9 qN.ks (fun _=>True) kN (fun c r=>r=oZ c) pmayt:=by
 intro cls E hE hw _;obtain⟨k,b,n,s,nl,ys,ml,rs,rfl,hl,-⟩:=row6 hw;obtain⟨q1,q2,q3,q4⟩:=ls2 hl;simp only[maxLen] at q1 q3;have t0:tbPm 0 [.int k,.bool b,.int n,.str s,.sl nl ys,.sl ml rs]=.bool (pbB [.int k,.bool b,.int n,.str s,.sl nl ys,.sl ml rs]):=by simp[tbPm,lO]
 have t1:tbPm 1 [.str s]=.bool (validD s):=by simp[tbPm,dY]
 have e0:mayB validD [.int k,.bool b,.int n,.str s,.sl nl ys,.sl ml rs]=(pbB [.int k,.bool b,.int n,.str s,.sl nl ys,.sl ml rs]&&validD s && !(k==5&&ys.length != rs.length)&&eK validD none ys):=rfl;have fin:mayB validD [.int k,.bool b,.int n,.str s,.sl nl ys,.sl ml rs]=eK validD none ys->kN 0 [.int k,.bool b,.int n,.str s,.sl nl ys,.sl ml rs] [.sl nl ys,.int ys.length,.int 0,.int k,.bool b,.int n,.str s,.sl ml rs]:=fun e=>⟨0,k,b,n,s,nl,ys,ml,rs,rfl,rfl,Nat.zero_le _,e⟩
 have el:(!((ys.length:Int)==(rs.length:Int)))=(ys.length != rs.length):=by
  rw[Bool.eq_iff_iff];simp;omega
 simp only[pmayt,Tr.vc,To.goodT,List.map_cons,List.map_nil,hE.v,hE.a,X.d_cons,X.d_nil,X.c_int,X.c_bool,X.c_bin,X.c_len,lenC,X.kd,aL,cond_true,cond_false,binD,intD,ak,al,t0,t1,Cl.bool.injEq,exists_eq',true_and,and_true,List.cons.injEq,oZ,el];refine⟨fun h1=>⟨fun h2=>⟨fun h3=>⟨fun h4=>?_,fun h4=>fin ?_⟩,fun h3=>fin ?_⟩,fun h2=>?_⟩,fun h1=>?_⟩
 ·rw[e0,h1,h2,h3,h4];rfl
 ·rw[e0,h1,h2,h3,h4];rfl
 ·rw[e0,h1,h2,h3];rfl
 ·rw[e0,h1,h2];rfl
 ·rw[e0,h1];rfl
theorem pmayV0:Vc (· < ·) pmayM tbPm 9 jK.ks kN (fun c r=>r=oZ c) 0 tD:=by
 rintro c0 cls E hE hw ⟨i,k,b,n,s,nl,ys,ml,rs,rfl,rfl,hi,hM⟩;have hw':Wts [.sl 9,.int .i64,.int .i64,.int .i64,.bool,.int .i64,.str,.sl 29] [.sl nl ys,.int ys.length,.int i,.int k,.bool b,.int n,.str s,.sl ml rs]:=hw;obtain⟨_,_,e,hc,-⟩:=hw'.cons_inv;cases e;obtain⟨_,_,e,q1,-,q2⟩:=hc.sl_inv;cases e;simp only[maxLen] at q1;have h4:(0:Int)<=(i:Int):=by omega
 simp only[tD,Tr.vc,To.goodT,List.map_cons,List.map_nil,hE.v,hE.a,X.d_cons,X.d_nil,X.c_int,X.c_bool,X.c_bin,X.c_len,X.c_inr,X.c_el,lenC,inrD,elD,X.kd,aL,cond_true,cond_false,binD,intD,ak,al,Cl.bool.injEq,exists_eq',true_and,and_true,decide_eq_true_eq,decide_eq_false_iff_not,h4,Int.toNat_natCast,List.cons.injEq,oZ];refine⟨fun hlt=>⟨hlt,?_⟩,fun hge=>?_⟩
 ·obtain⟨r,hr,hwr,hd,hme⟩:=aE q2 (i:=i) (by omega)
  obtain⟨_,rfl,hc⟩:=hwr.one;obtain⟨t,rfl,-⟩:=hc.str_inv;have t1:tbPm 1 [.str t]=.bool (validD t):=by simp[tbPm,dY]
  rw[hr];simp only[ak,t1,Cl.bool.injEq,exists_eq',true_and]
  have hdr:ys.drop i=[.str t]::ys.drop (i+1):=by
   obtain⟨hlt',e⟩:=ae.1 hme;rw[List.drop_eq_getElem_cons hlt',e]
  have hpk:gn ys (i+1)=some t:=by simp[gn,hme]
  rw[hdr,oY] at hM;rw[aH (n:=(i:Int)+1) (by omega) (by omega)]
  have fin:validD t=true->ltO (gn ys i) t=true->kN 0 [.int k,.bool b,.int n,.str s,.sl nl ys,.sl ml rs] [.sl nl ys,.int ys.length,.int ((i:Int)+1),.int k,.bool b,.int n,.str s,.sl ml rs]:=fun x1 x2=>
   ⟨i+1,k,b,n,s,nl,ys,ml,rs,rfl,rfl,by omega,by rw[hM,hpk,x1,x2];rfl⟩
  have mea:pmayM 0 [.sl nl ys,.int ys.length,.int ((i:Int)+1),.int k,.bool b,.int n,.str s,.sl ml rs]<pmayM 0 [.sl nl ys,.int ys.length,.int (i:Int),.int k,.bool b,.int n,.str s,.sl ml rs]:=by
   show (ys.length-((i:Int)+1)).toNat<(ys.length-(i:Int)).toNat;omega
  refine⟨fun x1=>⟨fun hp=>?_,fun hp=>⟨fin x1 ?_,mea⟩⟩,fun x1=>by rw[hM,x1];simp⟩
  ·rw[aH (n:=(i:Int)-1) (by omega) (by omega)]
   obtain⟨r',hr',hwr',_,hme'⟩:=aE q2 (i:=((i:Int)-1).toNat) (by omega);obtain⟨_,rfl,hc'⟩:=hwr'.one;obtain⟨t',rfl,-⟩:=hc'.str_inv;rw[hr']
   have hpv:gn ys i=some t':=by
    obtain⟨i',rfl⟩:∃ i',i=i'+1:=⟨i-1,by omega⟩
    have:(((i'+1:Nat):Int)-1).toNat=i':=by omega
    rw[this] at hme';simp[gn,hme']
   simp only[ak,strD,Cl.bool.injEq,exists_eq',true_and];rw[hpv] at hM fin;refine⟨⟨by omega,by omega⟩,fun x2=>?_,fun x2=>⟨fin x1 ?_,mea⟩⟩
   ·have x3:ltO (some t') t=false:=by simpa[ltO] using x2
    rw[hM,x3];simp
   ·simpa[ltO] using x2
  ·have:i=0:=by omega
   subst this;rfl
 ·rw[hM,List.drop_of_length_le (by omega)];simp[eK]
theorem pmay_x (hG:Gd0 k G)(hk0:0<k)(hsz:Tryz.prog.globals.size<=k)(hV:Go.Exo.Spec Tryz.prog G 176 [.one .str] (.one (.one .bool)) (fun _=>True) dY):∃ tb,qN.Sound Tryz.prog k G tb (fun _=>True) oZ:=by
 obtain⟨tbb,hSb⟩:=pbare_x hG hsz
 letI:Tb:=⟨some (9,tbPm)⟩
 exact⟨_,Ctr.ofT (hk:=tf) Nat.lt_wfRel.wf pmayM kN hG (fun D=>@aq.or _ (dcOf D) _ _ _ _ _ _
    (@aq.ctr _ (dcOf D) _ _ _ _ 9 (by kernel_rfl) _ _ _ _ hSb (by kernel_rfl) _ _ (hfn1 (fun c=>⟨_,rfl⟩) (fun c=>by simp[tbPm,lO])) none (fun _=>trivial) hG hk0 hsz rfl)
    (aq.spec (L:=9) (fi:=1) (fn:=tbPm) hV (hfn1 tC (fun c=>by simp[tbPm])) hG hk0 rfl D))
   hsz (L:=9) (by kernel_rfl) rfl (trs:=[tD]) (by kernel_rfl) pmayt_ok pmayV ⟨⟨AS,pmayV0⟩,trivial⟩⟩
end Go.Proofs.Wo
end
