/-
  MatchOrder: the document's Order. Own text; the trees by a program of mine.
-/
import Derived.Test.YtihaakenfdkgnaaGreatDoorPart18
import Derived.Test.YtihaakenfdkgnaaGreatDoorPart22
import Derived.Test.YtihaakenfdkgnaaGreatDoorPart24
import Derived.Laws.AppendOwnNone
import Derived.Test.YtihaakenfdkgnaaGreatDoorPart21
set_option linter.all false
noncomputable section
namespace Go.Proofs.Wo
open Go.Exo Go.Exo.Wo Go.Lib
set_option maxRecDepth 100000
def pu:Ct:=(fun(a b c d:X)(e:Kd)=>(⟨bf (outS Tryz.prog qP 9 Kord [((.bin .lss a b),false),((.bin .neq b d),true),((.rng d (.bin .quo a b) a),true),((.rng (.bin .quo a b) a a),true),((.app 9 1000000 (.cons (.cut c d (.bin .quo a b)) .nilA) .bool),true),((.app 9 1000000 (.cons (.cut c (.bin .quo a b) a) .nilA) .bool),true)] 18),[.junk,.junk,.junk,.x c,.x (.var 9 1 e),.nils,.int .i64 (0),.int .i64 (0),.junk,.junk,.junk,.junk,.junk,.junk,.junk,.junk,.junk,.junk,.junk,.junk,.junk,.junk,.junk,.junk,.junk,.junk,.junk,.junk,.junk,.junk,.junk,.junk,.junk,.junk,.junk,.junk,.junk,.junk,.junk,.junk,.junk,.junk,.junk,.junk,.junk,.junk,.junk,.junk,.junk,.junk,.junk,.junk,.junk,.junk,.junk,.junk,.junk,.junk,.junk,.junk,.junk,.junk,.junk,.junk,.junk,.junk,.junk,.junk,.junk,.junk,.junk,.junk,.junk,.junk,.junk,.junk],[],[e,e]⟩:Ct)) (.len (.var 9 0 (.sl 24))) (.int .i64 (2)) (.var 9 0 (.sl 24)) (.int .i64 (0)) (.sl 24)
def cX:Ct:=(fun(c d:X)(a b:Kd)=>(⟨bf (outC Tryz.prog qP 9 9 pu [((.bin .lss c (.len d)),true),((.bin .eql c (.len (.var 9 1 a))),true),((.inr c (.len d)),true)] 14),[.junk,.junk,.junk,.x d,.x (.var 9 1 a),.lst 10 (.var 9 2 a),.x (.var 9 3 b),.x (.var 9 4 b),.junk,.junk,.junk,.junk,.junk,.junk,.junk,.junk,.junk,.junk,.junk,.junk,.junk,.junk,.junk,.junk,.junk,.junk,.junk,.junk,.junk,.junk,.junk,.junk,.junk,.junk,.junk,.junk,.junk,.junk,.junk,.junk,.junk,.junk,.junk,.junk,.junk,.junk,.junk,.junk,.junk,.junk,.junk,.junk,.junk,.junk,.junk,.junk,.junk,.junk,.junk,.junk,.junk,.junk,.junk,.junk,.junk,.junk,.junk,.junk,.junk,.junk,.junk,.junk,.junk,.junk,.junk,.junk],[some (.own 24)],[a,a,a,b,b]⟩:Ct)) (.int .i64 (0)) (.var 9 0 (.sl 24)) (.sl 24) (.int .i64)
def pv:List Ct:=[pu,cX]
def rordt:Tr:=(fun(a b c d e:X)=>.must (.bin .lss a e) false <| .must (.bin .neq e d) true <| .must (.rng d b a) true <| .must (.rng b a a) true <| .must (.app 9 1000000 (.cons (.cut c d b) .nilA) .bool) true <| .must (.app 9 1000000 (.cons (.cut c b a) .nilA) .bool) true <| .leaf 18 (.cut 0 [] [(.app 9 0 (.cons (.cut c d b) .nilA) (.sl 24)),(.app 9 0 (.cons (.cut c b a) .nilA) (.sl 24))])) (.len (.var 9 0 (.sl 24))) (.bin .quo (.len (.var 9 0 (.sl 24))) (.int .i64 (2))) (.var 9 0 (.sl 24)) (.int .i64 (0)) (.int .i64 (2))
def tS:Tr:=(fun(a b c d e f g h:X)=>.ask (.bin .lss a (.len b)) (.ask (.bin .eql a h) (.must (.inr a (.len b)) true <| .leaf 14 (.cut 1 [12] [b,c,d,f,a])) (.must (.inr a (.len b)) true <| .must (.inr a h) true <| .must (.app 9 1000001 (.cons (.el b a 0 (.sl 29)) e) .bool) true <| .ask (.bin .leq (.app 9 1 (.cons (.el b a 0 (.sl 29)) e) (.int .i64)) a) (.leaf 15 (.cut 1 [13] [b,c,d,f,a])) (.leaf 15 (.cut 1 [13] [b,c,(.snoc g e),a,f])))) (.ask (.bin .lss a h) (.ask (.bin .eql a h) (.must (.inr a (.len b)) true <| .leaf 14 (.cut 1 [12] [b,c,d,f,a])) (.must (.inr a h) true <| .leaf 14 (.cut 1 [12] [b,c,(.snoc g e),a,f]))) (.leaf 8 (.ret [] [g])))) (.int .i64 (0)) (.var 9 0 (.sl 24)) (.var 9 1 (.sl 24)) (.snoc (.nil 24) (.cons (.el (.var 9 0 (.sl 24)) (.int .i64 (0)) 0 (.sl 29)) .nilA)) (.cons (.el (.var 9 1 (.sl 24)) (.int .i64 (0)) 0 (.sl 29)) .nilA) (.int .i64 (1)) (.nil 24) (.len (.var 9 1 (.sl 24)))
def tT:Tr:=(fun(c d e f g h i j k l:X)(a b:Kd)=>.ask (.bin .lss i (.len h)) (.ask (.bin .eql g l) (.must (.inr i (.len h)) true <| .must c true <| .leaf 14 (.cut 1 [12] [h,f,(.snoc k (.cons d .nilA)),(.bin .add i j),g])) (.must (.inr i (.len h)) true <| .must (.inr g l) true <| .must (.app 9 1000001 (.cons d e) .bool) true <| .ask (.bin .leq (.app 9 1 (.cons d e) a) (.int .i64 (0))) (.must c true <| .leaf 15 (.cut 1 [13] [h,f,(.snoc k (.cons d .nilA)),(.bin .add i j),g])) (.must c true <| .leaf 15 (.cut 1 [13] [h,f,(.snoc k e),i,(.bin .add g j)])))) (.ask (.bin .lss g l) (.ask (.bin .eql g l) (.must (.inr i (.len h)) true <| .must c true <| .leaf 14 (.cut 1 [12] [h,f,(.snoc k (.cons d .nilA)),(.bin .add i j),g])) (.must (.inr g l) true <| .must c true <| .leaf 14 (.cut 1 [12] [h,f,(.snoc k e),i,(.bin .add g j)]))) (.leaf 8 (.ret [] [k])))) (.inr (.len (.var 9 2 (.sl 24))) (.int .i64 (5864062014805))) (.el (.var 9 0 (.sl 24)) (.var 9 3 (.int .i64)) 0 (.sl 29)) (.cons (.el (.var 9 1 (.sl 24)) (.var 9 4 (.int .i64)) 0 (.sl 29)) .nilA) (.var 9 1 (.sl 24)) (.var 9 4 (.int .i64)) (.var 9 0 (.sl 24)) (.var 9 3 (.int .i64)) (.int .i64 (1)) (.var 9 2 (.sl 24)) (.len (.var 9 1 (.sl 24))) (.int .i64) (.sl 24)
theorem rordt_ok:Pth.allS Tryz.prog qP 9 Kord pv (rordt.paths []):=
 ⟨Pth.cS pu rfl,
  trivial⟩
theorem Be:Pth.allC Tryz.prog qP 9 Kord pv pu (tS.paths []):=
 ⟨Pth.cC cX rfl,Pth.cC cX rfl,Pth.cC cX rfl,Pth.cC cX rfl,Pth.cC cX rfl,Pth.rC,
  trivial⟩
theorem Bf:Pth.allC Tryz.prog qP 9 Kord pv cX (tT.paths []):=
 ⟨Pth.cC cX rfl,Pth.cC cX rfl,Pth.cC cX rfl,Pth.cC cX rfl,Pth.cC cX rfl,Pth.rC,
  trivial⟩
variable {k:Nat}{G:World->Prop}
def mrg (o:Cl->Cl->Int):List (List Cl)->List (List Cl)->List (List Cl)
 |[],ys=>ys
 |x::xs,[]=>x::xs
 |x::xs,y::ys=>if o (x.getD 0 .no) (y.getD 0 .no)<=0 then x::mrg o xs (y::ys) else y::mrg o (x::xs) ys
termination_by a b=>a.length+b.length
def ordL (o:Cl->Cl->Int):Nat->List (List Cl)->List (List Cl)
 |0,l=>l
 |m+1,l=>if l.length<2 then l else mrg o (ordL o m (l.take (l.length / 2))) (ordL o m (l.drop (l.length / 2)))
def ordG (o:Cl->Cl->Int)(m:Nat):List Cl->List Cl|[.sl _ l]=>[.sl l.isEmpty (ordL o m l)]|_=>[]
theorem zM {o:Cl->Cl->Int}{A:List (List Cl)}:mrg o A []=A:=by cases A<;>simp[mrg]
theorem ii {o:Cl->Cl->Int}:∀ (n:Nat)(A B:List (List Cl)),A.length+B.length<=n->(mrg o A B).Perm (A++B)
 |_,[],B,_=>by rw[mrg];exact List.Perm.refl _
 |_,a::A,[],_=>by rw[mrg,List.append_nil]
 |0,a::A,b::B,h=>by simp at h
 |n+1,a::A,b::B,h=>by
  rw[mrg];split
  ·exact (ii n A (b::B) (by simp at h ⊢;omega)).cons a
  ·refine ((ii n (a::A) B (by simp at h ⊢;omega)).cons b).trans ?_
   exact List.perm_middle.symm
theorem cF {o:Cl->Cl->Int}:∀ (m:Nat)(l:List (List Cl)),(ordL o m l).Perm l
 |0,l=>List.Perm.refl _
 |m+1,l=>by
  rw[ordL];split
  ·exact List.Perm.refl _
  ·refine (ii _ _ _ (am _)).trans (((cF m _).append (cF m _)).trans ?_)
   rw[List.take_append_drop]
theorem v8 {o:Cl->Cl->Int}{m:Nat}{l:List (List Cl)}:(ordL o m l).length=l.length:=(cF m l).length_eq
def oRef (N:Nat)(a b:Cl):Int:=lsC (rcN N) (eM a) (eM b)
def ordPre (N m:Nat)(c:List Cl):Prop:=∃ nl l,c=[Cl.sl nl l]/\l.length<m/\l.length<=40/\∀ r∈l,∃ nl' d,r=[Cl.sl nl' d]/\2*SizeOf.sizeOf r+10<N
open Classical in
def tbOr (N m:Nat)(f:Nat)(c:List Cl):Cl:=if f=1000000 then .bool (decide (ordPre N m c)) else if f=1000001 then .bool (decide (SizeOf.sizeOf c<N)) else if f=0 then (ordG (oRef N) m c).getD 0 .no else (bN (rcN N) c).getD 0 .no
def lZ (N m:Nat)(j:Nat)(c0 c:List Cl):Prop:=∃ nl l A B,c0=[Cl.sl nl l]/\ordPre N (m+1) c0/\2<=l.length/\A=ordL (oRef N) m (l.take (l.length / 2))/\B=ordL (oRef N) m (l.drop (l.length / 2))/\
 (j=0->c=[.sl false A,.sl false B])/\(j≠0->∃ O i q,c=[.sl false A,.sl false B,.sl false O,.int i,.int q]/\0<=i/\i<=A.length/\0<=q/\q<=B.length/\(O.length:Int)=i+q/\0<O.length/\O++mrg (oRef N) (A.drop i.toNat) (B.drop q.toNat)=mrg (oRef N) A B)
def ordM (_:Nat)(c:List Cl):Nat:=match c with|[.sl _ A,.sl _ B]=>A.length+B.length+1|[.sl _ A,.sl _ B,_,.int i,.int q]=>(A.length-i+(B.length-q)).toNat|_=>0
theorem wa {N m:Nat}{nl:Bool}{l l':List (List Cl)}(h:ordPre N (m+1) [Cl.sl nl l])(hs:∀ r∈l',r∈l)(hl:l'.length<l.length):ordPre N m [Cl.sl nl l']:=by
 obtain⟨_,_,e,h1,h2,h3⟩:=h;cases e;exact⟨_,_,rfl,by omega,by omega,fun r hr=>h3 r (hs r hr)⟩
open Classical in
theorem tb_pre {N m:Nat}{c:List Cl}(h:ordPre N m c):tbOr N m 1000000 c=.bool true:=by rw[tbOr,if_pos rfl,decide_eq_true h]
theorem tb_sz {N m:Nat}{c:List Cl}(h:SizeOf.sizeOf c<N):tbOr N m 1000001 c=.bool true:=by rw[tbOr,if_neg (by decide),if_pos rfl,decide_eq_true h]
theorem zN {N m:Nat}{nl:Bool}{l:List (List Cl)}(h:0<l.length):tbOr N m 0 [.sl nl l]=.sl false (ordL (oRef N) m l):=by
 cases l with
 |nil=>simp at h
 |cons=>rfl
theorem zO {N m:Nat}{n1 n2:Bool}{A B:List (List Cl)}:tbOr N m 1 [.sl n1 A,.sl n2 B]=.int (lsC (rcN N) A B):=rfl
theorem rordV {N m:Nat}:Vc0 (tbOr N m) 9 Kord.ks (fun c=>ordPre N (m+1) c/\∀ nl l,c=[Cl.sl nl l]->2<=l.length) (lZ N m) (fun c r=>r=ordG (oRef N) (m+1) c) rordt:=by
 rintro cls E hE hw ⟨hp,h2⟩;have hp':=hp;obtain⟨nl,l,rfl,q1,q2,q3⟩:=hp;have h2:=h2 _ _ rfl
 have hq:(l.length:Int).tdiv 2=((l.length / 2:Nat):Int):=by
  show (l.length:Int).tdiv ((2:Nat):Int)=_;exact (Int.ofNat_tdiv _ _).symm
 have hw2:IntKind.i64.wrap ((l.length / 2:Nat):Int)=((l.length / 2:Nat):Int):=aH (by omega) (by omega);have hdr:(l.drop (l.length / 2)).take (l.length-l.length / 2)=l.drop (l.length / 2):=List.take_of_length_le (by simp);have e1:=tb_pre (wa (l':=l.take (l.length / 2)) hp' (fun r hr=>List.mem_of_mem_take hr) (by rw[List.length_take];omega));have e2:=tb_pre (wa (l':=l.drop (l.length / 2)) hp' (fun r hr=>List.mem_of_mem_drop hr) (by rw[List.length_drop];omega));have t1:=zN (N:=N) (m:=m) (nl:=nl) (l:=l.take (l.length / 2)) (by rw[List.length_take];omega);have t2:=zN (N:=N) (m:=m) (nl:=nl) (l:=l.drop (l.length / 2)) (by rw[List.length_drop];omega);simp only[rordt,Tr.vc,To.goodT,List.map_cons,List.map_nil,hE.v,hE.a,X.d_cons,X.d_nil,X.c_int,X.c_len,X.c_bin,X.c_rng,X.c_cut,X.kd,aL,cond_true,cond_false,binD,intD,lenC,rngD,cutD,ak,al,Cl.bool.injEq,exists_eq',true_and,and_true,decide_eq_true_eq,decide_eq_false_iff_not,hq,hw2,Int.toNat_natCast,Int.toNat_zero,Nat.sub_zero,List.drop_zero,hdr,e1,e2,t1,t2];refine⟨by omega,rfl,by omega,by omega,nl,l,_,_,rfl,hp',h2,rfl,rfl,fun _=>rfl,fun h=>absurd rfl h⟩
theorem iO {N m:Nat}{nl:Bool}{l A:List (List Cl)}(hp:ordPre N (m+1) [Cl.sl nl l])(hA:∀ r∈A,r∈l){i:Nat}(hi:i<A.length):∃ na d,A.getD i []=[Cl.sl na d]/\2*SizeOf.sizeOf [Cl.sl na d]+10<N/\A.drop i=[Cl.sl na d]::A.drop (i+1):=by
 obtain⟨_,_,e,-,-,h3⟩:=hp;cases e;obtain⟨na,d,e,hz⟩:=h3 _ (hA _ (List.getElem_mem hi));refine⟨na,d,?_,by rw[<- e];exact hz,?_⟩
 ·rw[List.getD_eq_getElem?_getD,ah hi];exact e
 ·rw[<- e];exact List.drop_eq_getElem_cons hi
theorem lg {N m:Nat}{nl:Bool}{l A B:List (List Cl)}(hp:ordPre N (m+1) [Cl.sl nl l])(h2:2<=l.length)(hA:A=ordL (oRef N) m (l.take (l.length / 2)))(hB:B=ordL (oRef N) m (l.drop (l.length / 2))) :
  0<A.length/\0<B.length/\A.length+B.length=l.length/\l.length<=40/\(∀ r∈A,r∈l)/\(∀ r∈B,r∈l):=by
 have a:=v8 (o:=oRef N) (m:=m) (l:=l.take (l.length / 2));have b:=v8 (o:=oRef N) (m:=m) (l:=l.drop (l.length / 2));rw[<- hA,List.length_take] at a;rw[<- hB,List.length_drop] at b;obtain⟨_,_,e,-,h40,-⟩:=hp;cases e;refine⟨by omega,by omega,by omega,h40,fun r hr=>?_,fun r hr=>?_⟩
 ·rw[hA] at hr;exact List.mem_of_mem_take ((cF _ _).mem_iff.1 hr)
 ·rw[hB] at hr;exact List.mem_of_mem_drop ((cF _ _).mem_iff.1 hr)
theorem two_sz {N:Nat}{na nb:Bool}{d d':List (List Cl)}(h1:2*SizeOf.sizeOf [Cl.sl na d]+10<N)(h2:2*SizeOf.sizeOf [Cl.sl nb d']+10<N):SizeOf.sizeOf [Cl.sl na d,.sl nb d']<N:=by
 simp only[List.cons.sizeOf_spec,List.nil.sizeOf_spec] at h1 h2 ⊢;omega
theorem rordV0 {N m:Nat}:Vc (· < ·) ordM (tbOr N m) 9 pu.ks (lZ N m) (fun c r=>r=ordG (oRef N) (m+1) c) 0 tS:=by
 rintro c0 cls E hE hw ⟨nl,l,A,B,rfl,hp,h2,hA,hB,hc,-⟩;obtain rfl:=hc rfl;obtain⟨a0,b0,hab,h40,mA,mB⟩:=lg hp h2 hA hB;obtain⟨na,d,eA,zA,dA⟩:=iO hp mA a0;obtain⟨nb,d',eB,zB,dB⟩:=iO hp mB b0;have es:=tb_sz (N:=N) (m:=m) (two_sz zA zB);have er:=zO (N:=N) (m:=m) (n1:=na) (n2:=nb) (A:=d) (B:=d');rw[List.drop_zero] at dA dB;simp only[tS,Tr.vc,To.goodT,List.map_cons,List.map_nil,hE.v,hE.a,X.d_cons,X.d_nil,X.c_int,X.c_bool,X.c_nil,X.c_bin,X.c_len,X.c_inr,X.c_el,X.c_snoc,iT,lenC,inrD,elD,X.kd,aL,cond_true,cond_false,binD,intD,ak,al,Cl.bool.injEq,exists_eq',true_and,and_true,decide_eq_true_eq,decide_eq_false_iff_not,eA,eB,es,er,Int.toNat_zero,beq_iff_eq,beq_eq_false_iff_ne,ne_eq]
 have s1:mrg (oRef N) A B=if lsC (rcN N) d d'<=0 then [Cl.sl na d]::mrg (oRef N) (A.drop 1) B else [Cl.sl nb d']::mrg (oRef N) A (B.drop 1):=by
  rw[Nat.zero_add] at dA dB
  conv=>lhs;rw[dA,dB,mrg]
  rw[<- dA,<- dB];rfl
 refine⟨fun _=>⟨fun hb=>by omega,fun _=>⟨by omega,by omega,fun h=>⟨⟨nl,l,A,B,rfl,hp,h2,hA,hB,fun h=>absurd h (by decide),fun _=>⟨_,1,0,rfl,by omega,by omega,by omega,by omega,by simp,by simp,?_⟩⟩,?_⟩,fun h=>⟨⟨nl,l,A,B,rfl,hp,h2,hA,hB,fun h=>absurd h (by decide),fun _=>⟨_,0,1,rfl,by omega,by omega,by omega,by omega,by simp,by simp,?_⟩⟩,?_⟩⟩⟩,fun h=>by omega⟩
 ·rw[s1,if_pos h];rfl
 ·show (A.length-(1:Int)+(B.length-(0:Int))).toNat<A.length+B.length+1
  omega
 ·rw[s1,if_neg h];rfl
 ·show (A.length-(0:Int)+(B.length-(1:Int))).toNat<A.length+B.length+1
  omega
theorem rordV1 {N m:Nat}:Vc (· < ·) ordM (tbOr N m) 9 cX.ks (lZ N m) (fun c r=>r=ordG (oRef N) (m+1) c) 1 tT:=by
 rintro c0 cls E hE hw ⟨nl,l,A,B,rfl,hp,h2,hA,hB,-,hc⟩;obtain⟨O,i,q,rfl,hi0,hi,hq0,hq,hO,hO0,hm⟩:=hc (by decide);obtain⟨a0,b0,hab,h40,mA,mB⟩:=lg hp h2 hA hB
 have hfin:¬ i<A.length->¬ q<B.length->O=mrg (oRef N) A B:=fun h1 h2=>by
  rw[<- hm,List.drop_eq_nil_of_le (by omega:A.length<=i.toNat),List.drop_eq_nil_of_le (by omega:B.length<=q.toNat),mrg,List.append_nil]
 have w1:IntKind.i64.wrap (i+1)=i+1:=aH (by omega) (by omega);have w2:IntKind.i64.wrap (q+1)=q+1:=aH (by omega) (by omega);have ti:(i+1).toNat=i.toNat+1:=by omega
 have tq:(q+1).toNat=q.toNat+1:=by omega
 have LA:∀ na d,A.drop i.toNat=[Cl.sl na d]::A.drop (i.toNat+1)->i<A.length->(¬ q<B.length\/∃ nb d',B.drop q.toNat=[Cl.sl nb d']::B.drop (q.toNat+1)/\lsC (rcN N) d d'<=0)->
   lZ N m 1 [Cl.sl nl l] [.sl false A,.sl false B,.sl false (O++[[Cl.sl na d]]),.int (i+1),.int q]:=fun na d e hlt h=>by
  refine⟨nl,l,A,B,rfl,hp,h2,hA,hB,fun h=>absurd h (by decide),fun _=>⟨_,i+1,q,rfl,by omega,by omega,hq0,hq,by simp;omega,by simp,?_⟩⟩;rw[ti,<- hm,e,List.append_assoc];congr 1;rcases h with h|⟨nb,d',eb,hle⟩
  ·rw[List.drop_eq_nil_of_le (by omega:B.length<=q.toNat),zM,zM];rfl
  ·rw[eb,mrg]
   have:oRef N (([Cl.sl na d]:List Cl).getD 0 .no) (([Cl.sl nb d']:List Cl).getD 0 .no)<=0:=hle;rw[if_pos this];rfl
 have LB:∀ nb d',B.drop q.toNat=[Cl.sl nb d']::B.drop (q.toNat+1)->q<B.length->(¬ i<A.length\/∃ na d,A.drop i.toNat=[Cl.sl na d]::A.drop (i.toNat+1)/\¬ lsC (rcN N) d d'<=0)->
   lZ N m 1 [Cl.sl nl l] [.sl false A,.sl false B,.sl false (O++[[Cl.sl nb d']]),.int i,.int (q+1)]:=fun nb d' e hlt h=>by
  refine⟨nl,l,A,B,rfl,hp,h2,hA,hB,fun h=>absurd h (by decide),fun _=>⟨_,i,q+1,rfl,hi0,hi,by omega,by omega,by simp;omega,by simp,?_⟩⟩;rw[tq,<- hm,e,List.append_assoc];congr 1;rcases h with h|⟨na,d,ea,hle⟩
  ·rw[List.drop_eq_nil_of_le (by omega:A.length<=i.toNat),mrg,mrg];rfl
  ·rw[ea,mrg]
   have:¬ oRef N (([Cl.sl na d]:List Cl).getD 0 .no) (([Cl.sl nb d']:List Cl).getD 0 .no)<=0:=hle;rw[if_neg this];rfl
 simp only[tT,Tr.vc,To.goodT,List.map_cons,List.map_nil,hE.v,hE.a,X.d_cons,X.d_nil,X.c_int,X.c_bool,X.c_nil,X.c_bin,X.c_len,X.c_inr,X.c_el,X.c_snoc,iT,lenC,inrD,elD,X.kd,aL,cond_true,cond_false,binD,intD,ak,al,Cl.bool.injEq,exists_eq',true_and,and_true,decide_eq_true_eq,decide_eq_false_iff_not,beq_iff_eq,beq_eq_false_iff_ne,ne_eq,w1,w2]
 have M1:∀ x,ordM 1 [Cl.sl false A,.sl false B,x,.int (i+1),.int q]<ordM 1 [Cl.sl false A,.sl false B,.sl false O,.int i,.int q]\/¬ i<A.length:=fun x=>by
  by_cases h:i<A.length
  ·left
   show (A.length-(i+1)+(B.length-q)).toNat<(A.length-i+(B.length-q)).toNat;omega
  ·exact .inr h
 have M2:∀ x,ordM 1 [Cl.sl false A,.sl false B,x,.int i,.int (q+1)]<ordM 1 [Cl.sl false A,.sl false B,.sl false O,.int i,.int q]\/¬ q<B.length:=fun x=>by
  by_cases h:q<B.length
  ·left
   show (A.length-i+(B.length-(q+1))).toNat<(A.length-i+(B.length-q)).toNat;omega
  ·exact .inr h
 refine⟨fun hlt=>⟨fun hqe=>?_,fun hqn=>?_⟩,fun hge=>⟨fun hql=>⟨fun hqe=>by omega,fun hqn=>?_⟩,fun hqg=>?_⟩⟩
 ·obtain⟨na,d,eA,zA,dA⟩:=iO hp mA (i:=i.toNat) (by omega)
  simp only[eA,ak];exact⟨⟨hi0,hlt⟩,⟨by omega,by omega⟩,LA na d dA hlt (.inl (by omega)),(M1 _).resolve_right fun h=>h hlt⟩
 ·have hql:q<B.length:=by omega
  obtain⟨na,d,eA,zA,dA⟩:=iO hp mA (i:=i.toNat) (by omega);obtain⟨nb,d',eB,zB,dB⟩:=iO hp mB (i:=q.toNat) (by omega);have es:=tb_sz (N:=N) (m:=m) (two_sz zA zB);have er:=zO (N:=N) (m:=m) (n1:=na) (n2:=nb) (A:=d) (B:=d');simp only[eA,eB,ak,es,er,Cl.bool.injEq,exists_eq',true_and,decide_eq_true_eq,decide_eq_false_iff_not];exact⟨⟨hi0,hlt⟩,⟨hq0,hql⟩,fun h=>⟨⟨by omega,by omega⟩,LA na d dA hlt (.inr ⟨nb,d',dB,h⟩),(M1 _).resolve_right fun h=>h hlt⟩,fun h=>⟨⟨by omega,by omega⟩,LB nb d' dB hql (.inr ⟨na,d,dA,h⟩),(M2 _).resolve_right fun h=>h hql⟩⟩
 ·obtain⟨nb,d',eB,zB,dB⟩:=iO hp mB (i:=q.toNat) (by omega)
  simp only[eB,ak];exact⟨⟨hq0,hql⟩,⟨by omega,by omega⟩,LB nb d' dB hql (.inl hge),(M2 _).resolve_right fun h=>h hql⟩
 ·have hO2:=hfin hge hqg
  have hne:l.isEmpty=false:=by
   cases l with
   |nil=>simp at h2
   |cons=>rfl
  simp only[ordG,hne];rw[ordL,if_neg (by omega),<- hA,<- hB,hO2]
theorem yc {w:World}{base:Nat}{v:Value}{xs:List Value}{out:List Cl}{φ:Nat->Nat->Option Value}(ho:w.ownsRow base 24 1 v out.length xs)(hr:ig (rel φ) xs out)(hd:Dat φ w)(hn:∀ b o u,φ b o=some u->v.ownBlock≠some b)(hz:v=.slice none 0 0<->out.length=0) :
  ∃ φ',(∀ b o u,φ b o=some u->φ' b o=some u)/\Dat φ' w/\(∀ b o u,φ' b o=some u->b<base->φ b o=some u)/\CR (rel φ') (.sl 24) v (.sl out.isEmpty (out.map fun c=>[c])):=by
 rcases ho.2 with⟨rfl,h0⟩|⟨g,cap,cur,rfl,hg,hh,hncp,hcpm,hcs,htake⟩
 ·have:out=[]:=List.length_eq_zero_iff.1 h0
  subst this;exact⟨φ,fun _ _ _ h=>h,hd,fun _ _ _ h _=>h,.nil 24⟩
 ·have hne:∀ b o u,φ b o=some u->b≠g:=fun b o u h e=>hn b o u h (by rw[e];rfl)
  have h1:out.isEmpty=false:=by
   cases out with
   |nil=>exact absurd (hz.2 rfl) (by simp)
   |cons=>rfl
  have hsub:∀ b o u,φ b o=some u->(fun b o=>if b=g/\o<out.length then xs[o]? else φ b o) b o=some u:=fun b o u h=>by
   show (if b=g/\o<out.length then xs[o]? else φ b o)=some u;rw[if_neg (fun e=>hne b o u h e.1)];exact h
  rw[h1];refine⟨fun b o=>if b=g/\o<out.length then xs[o]? else φ b o,hsub,fun b o u h=>?_,fun b o u h hb=>?_,?_⟩
  ·simp only at h
   split at h
   ·rename_i e
    obtain⟨rfl,h3⟩:=e;rw[<- htake,List.getElem?_take_of_lt (by omega)] at h;simpa[World.cell?,hh] using h
   ·exact hd b o u h
  ·simp only at h
   split at h
   ·rename_i e;omega
   ·exact h
  ·have row:∀ (i:Nat)(r:List Cl),(out.map fun c=>[c])[i]? = some r->i<out.length/\∃ c x,r=[c]/\out[i]? = some c/\xs[i]? = some x/\CR (rel φ) (.sl 29) x c:=fun i r h=>by
    rw[List.getElem?_map] at h;cases hc:out[i]? with
    |none=>rw[hc] at h;cases h
    |some c=>
     rw[hc] at h;have hi:=(ae.1 hc).1;have hx:=ah (l:=xs) (i:=i) (by rw[hr.1];exact hi);exact⟨hi,c,_,by simpa using h.symm,rfl,hx,hr.2 i _ c hx hc⟩
   refine .sl 24 g 0 out.length cap _ (fun i _=>(xs[i]?).getD .nilIface) (by simp) hncp hcpm (fun i r h=>by obtain⟨_,c,_,e,_⟩:=row i r h;rw[e];rfl) (fun i r j c a1 a2=>?_) (fun i r j c kd a1 a2 a3=>?_)
   ·obtain⟨hi,c',x,e,-,ex,-⟩:=row i r a1
    subst e
    match j,a2 with
    |0,a2=>
     show (if g=g/\0+i*1+0<out.length then xs[0+i*1+0]? else φ g (0+i*1+0))=some ((xs[i]?).getD .nilIface);rw[if_pos ⟨rfl,by omega⟩,show 0+i*1+0=i by omega,ex];rfl
    |j+1,a2=>simp at a2
   ·obtain⟨hi,c',x,e,-,ex,hcr⟩:=row i r a1
    subst e
    match j,a2,a3 with
    |0,a2,a3=>
     have e1:c=c':=by simpa using a2.symm
     have e2:kd=.sl 29:=by
      have:some (Kd.sl 29)=some kd:=a3;exact (Option.some.inj this).symm
     subst e1;subst e2;simp only[ex,Option.getD_some];exact hcr.mono hsub
    |j+1,a2,_=>simp at a2
end Go.Proofs.Wo
end

noncomputable section
namespace Go.Proofs.Wo
open Go.Exo Go.Exo.Wo Go.RowKit Go.Sort Go.Lib
set_option maxRecDepth 100000
variable {k:Nat}{G:World->Prop}
set_option maxHeartbeats 1000000 in
theorem Bh {w:World}:Calls Tryz.prog 9 #[.slice none 0 0] w fun e w'=>e=.returned (.slice none 0 0)/\w'=w:=by
 obtain⟨i1,hi',hz0',hz1',hz2'⟩:=fX x9;go_enter Tryz.func9,Tryz.ntmps9;go_wp2_with (at_builtin;refine wpList_append_own_none rfl _ _ 22 rfl w.heap.size 24 i1 1 Tryz.underlying22 hi' _ 0 [] rfl (World.ownsRow_nil _ _ _ _) rfl ?_);go_ret;exact⟨rfl,rfl⟩
set_option maxHeartbeats 1000000 in
theorem l6 {w:World}{φ:Nat->Nat->Option Value}(hφ:Dat φ w)(ad:Addr)(n c:Nat)(hn:n<2)(xs:List Value)(out:List Cl)(hx:ig (rel φ) xs out)(hl:out.length=n)(hc:∀ j u,xs[j]? = some u->w.cell? (ad.add j)=some u) :
  Calls Tryz.prog 9 #[.slice (some ad) n c] w (OrdC w φ (.sl out.isEmpty (out.map fun c=>[c]))):=by
 obtain⟨i1,hi',hz0',hz1',hz2'⟩:=fX x9;have hxl:xs.length=n:=by rw[hx.1,hl]
 have h1:∀ u∈xs,u.oneCell'=true:=fun u hu=>by
  obtain⟨i,hi,rfl⟩:=List.getElem_of_mem hu;exact jO (hx.2 i _ _ (ah hi) (ah (by rw[<- hx.1];exact hi)))
 have hnz:(n:Int)<2:=by omega
 have HX:=Go.Lib.hid hx;have HL:=Go.Lib.hid hl;have HD:=Go.Lib.hid hφ;have HC:=Go.Lib.hid hc;clear hx hφ hc hl;go_enter Tryz.func9,Tryz.ntmps9;go_wp2_with (at_builtin;refine wpList_append_own_at _ rfl _ _ 22 rfl w.heap.size 24 i1 (.slice none 0 0) 1 24 Tryz.underlying22 hi' hz0' hz1' hz2' rfl (by decide) _ 0 [] rfl (World.ownsRow_nil _ _ _ _) ad n c xs rfl (by omega) HC.out h1 (by unfold maxLen;omega) (by omega) (am _) ?_;intro v' w5 hown5 hgrow5 hnil5 hat5);go_ret;have hB:RowKit.Below w.heap.size w w5:=(Below.refl _ w).grown hgrow5 (am _) (fun k e=>by cases e);rw[Nat.zero_add,List.nil_append] at hown5;rw[<- HL.out] at hown5;have hD5:=HD.out.below hB
 obtain⟨φ',s1,s2,s3,s4⟩:=yc hown5 HX.out hD5 (fun b o u h e=>by
  rcases hat5 with h1|h1
  ·rw[h1] at e;cases e
  ·rw[h1] at e
   have:=HD.out.lt h
   simp at e;omega) ⟨fun h=>by have:=(hnil5.1 h).2;rw[HL.out];exact this,fun h=>hnil5.2 ⟨rfl,by rw[<- HL.out];exact h⟩⟩
 exact⟨_,φ',rfl,s1,s2,fun b o u h hb=>s3 b o u h hb,hB,s4⟩
theorem ye {w:World}{φ:Nat->Nat->Option Value}(hφ:Dat φ w){x:Value}{nl:Bool}{l:List (List Cl)}(hx:CR (rel φ) (.sl 24) x (.sl nl l))(hl:l.length<2):Calls Tryz.prog 9 #[x] w (OrdC w φ (.sl l.isEmpty l)):=by
 cases hx with
 |nil=>exact Bh.mono fun e w' ⟨h1,h2⟩=>by subst h1;subst h2;exact⟨_,φ,rfl,fun _ _ _ h=>h,hφ,fun _ _ _ h _=>h,Below.refl _ _,.nil 24⟩
 |e0 _ a=>exact l6 hφ a 0 0 (by omega) [] [] ⟨rfl,fun i x c h=>by simp at h⟩ rfl fun j u h=>by simp at h
 |sl _ blk off len cap _ vs a1 a2 a3 a4 a5 a6=>
  subst a1
  match l,hl,a4,a5,a6 with
  |[],_,_,_,_=>exact l6 hφ _ 0 cap (by omega) [] [] ⟨rfl,fun i x c h=>by simp at h⟩ rfl fun j u h=>by simp at h
  |[r],_,a4,a5,a6=>
   have hr:r.length=1:=a4 0 r rfl
   obtain⟨c,rfl⟩:∃ c,r=[c]:=by
    match r,hr with
    |[c],_=>exact⟨_,rfl⟩
   have f0:=a5 0 _ 0 c rfl rfl;have g0:=a6 0 _ 0 c (.sl 29) rfl rfl rfl;refine l6 hφ ⟨blk,off,none⟩ 1 cap (by omega) [vs 0 0] [c] ⟨rfl,fun i x d h1 h2=>?_⟩ rfl fun j u h=>?_
   ·match i,h1,h2 with
    |0,h1,h2=>
     have e1:x=vs 0 0:=by simpa using h1.symm
     have e2:d=c:=by simpa using h2.symm
     subst e1;subst e2;exact g0
    |i+1,h1,_=>simp at h1
   ·match j,h with
    |0,h=>
     have e1:u=vs 0 0:=by simpa using h.symm
     subst e1;have:=hφ _ _ _ f0;simpa[Addr.add] using this
    |j+1,h=>simp at h
  |_::_::_,hl,_,_,_=>simp at hl;omega
theorem wb (hG:Gd0 k G)(hk0:0<k)(hsz:Tryz.prog.globals.size<=k)(N:Nat):∀ m,Go.Exo.Spec Tryz.prog G 9 [.one (.sl 24)] (.one (.one (.sl 24))) (ordPre N m) (ordG (oRef N) m)
 |0=>fun w φ args cls _ _ _ hp=>by
  obtain⟨_,_,_,h,_⟩:=hp;omega
 |m+1=>by
  have ih:=wb hG hk0 hsz N m;obtain⟨tb2,h2⟩:=zD (k:=k) (G:=G) hG hk0 hsz N
  letI:Tb:=⟨some (9,tbOr N m)⟩
  have hC:Kord.Sound Tryz.prog k G _ (fun c=>ordPre N (m+1) c/\∀ nl l,c=[Cl.sl nl l]->2<=l.length) (ordG (oRef N) (m+1)):=Ctr.ofT (hk:=qP) Nat.lt_wfRel.wf ordM (lZ N m) hG (fun D=>@aq.or _ (dcOf D) _ _ _ _ _ _
    (aq.specP ih (bm (fun c=>by unfold ordG;split<;>simp) (fun c=>by simp[tbOr])) (fun c h=>by simpa[tbOr] using h) hG hk0 rfl D)
    (@aq.ctr _ (dcOf D) _ _ _ _ 9 (by kernel_rfl) _ _ _ _ h2 (by kernel_rfl) _ _ (bm (fun c=>by unfold bN;split<;>simp) (fun c=>by simp[tbOr])) (some 1000001) (fun c h=>by simpa[tbOr] using h) hG hk0 hsz rfl))
   hsz (L:=9) (by kernel_rfl) rfl (trs:=[tS,tT]) (by kernel_rfl) rordt_ok rordV ⟨⟨Be,rordV0⟩,⟨Bf,rordV1⟩,trivial⟩
  have hS:=Ctr.Sound.spec (by kernel_rfl) hG hk0 hsz hC rfl;intro w φ args cls hw hφ ha hp;by_cases h2:∀ nl l,cls=[Cl.sl nl l]->2<=l.length
  ·exact hS w φ args cls hw hφ ha ⟨hp,h2⟩
  ·obtain⟨nl,l,rfl,-,-,-⟩:=hp
   have hl:l.length<2:=by
    refine Decidable.byContradiction fun h=>h2 fun nl' l' e=>?_
    cases e;omega
   cases ha with
   |one hx h0=>
    cases h0;refine (ye hφ hx hl).mono ?_;rintro e w' ⟨y,φ',rfl,s1,s2,s3,s4,s5⟩;refine⟨y,φ',rfl,s1,s2,s3,⟨s4.block,s4.size,s4.os,s4.output,s4.tape⟩,?_⟩
    have e1:ordG (oRef N) (m+1) [Cl.sl nl l]=[Cl.sl l.isEmpty l]:=by
     show [Cl.sl l.isEmpty (ordL (oRef N) (m+1) l)]=_;rw[ordL,if_pos hl]
    rw[e1];exact .one s5 .nil
end Go.Proofs.Wo
end

noncomputable section
namespace Go.Proofs.Wo
open Go.Exo Go.Exo.Wo Go.Lib
set_option maxRecDepth 100000
def l7:Ct:=(fun(a:Kd)=>(⟨bf (outS Tryz.prog lM 9 oO [((.bin .neq (.len (.var 9 0 a)) (.len (.var 9 1 a))),false)] 12),[.x (.var 9 0 a),.x (.var 9 1 a),.junk,.junk,.junk,.x (.var 9 2 (.int .i64)),.junk,.junk,.junk,.junk,.junk,.junk,.junk,.junk,.junk,.junk,.junk,.junk,.junk,.junk,.junk,.junk,.junk,.junk,.junk,.junk,.junk,.junk,.junk,.junk,.junk,.junk,.junk,.junk,.junk,.junk,.junk,.junk,.junk,.junk,.junk,.junk,.junk,.junk,.junk,.junk,.junk,.junk,.junk,.junk,.junk,.junk,.junk,.junk],[],[a,a,(.int .i64)]⟩:Ct)) (.sl 24)
def pz:Ct:=(fun(a c e:X)(b d:Kd)=>(⟨bf (outC Tryz.prog lM 9 8 l7 [((.bin .lss a (.len c)),true),((.inr a (.len c)),true),((.inr a (.len e)),true),((.bin .neq (.len (.el c a 0 (.sl 29))) (.len (.el e a 0 (.sl 29)))),false)] 16),[.x c,.x e,.junk,.junk,.junk,.x a,.x (.var 9 3 d),.junk,.junk,.junk,.junk,.junk,.junk,.junk,.junk,.junk,.junk,.junk,.junk,.junk,.junk,.junk,.junk,.junk,.junk,.junk,.junk,.junk,.junk,.junk,.junk,.junk,.junk,.junk,.junk,.junk,.junk,.junk,.junk,.junk,.junk,.junk,.junk,.junk,.junk,.junk,.junk,.junk,.junk,.junk,.junk,.junk,.junk,.junk],[],[b,b,d,d]⟩:Ct)) (.var 9 2 (.int .i64)) (.var 9 0 (.sl 24)) (.var 9 1 (.sl 24)) (.sl 24) (.int .i64)
def pC:List Ct:=[l7,pz]
def samet:Tr:=(fun(a:Kd)=>.ask (.bin .neq (.len (.var 9 0 a)) (.len (.var 9 1 a))) (.leaf 9 (.ret [] [(.bool false)])) (.leaf 12 (.cut 0 [] [(.var 9 0 a),(.var 9 1 a),(.int .i64 (0))]))) (.sl 24)
def tU:Tr:=(fun(a b c:X)=>.ask (.bin .lss a (.len b)) (.must (.inr a (.len b)) true <| .must (.inr a (.len c)) true <| .ask (.bin .neq (.len (.el b a 0 (.sl 29))) (.len (.el c a 0 (.sl 29)))) (.leaf 14 (.ret [] [(.bool false)])) (.leaf 16 (.cut 1 [] [b,c,a,(.int .i64 (0))]))) (.leaf 8 (.ret [] [(.bool true)]))) (.var 9 2 (.int .i64)) (.var 9 0 (.sl 24)) (.var 9 1 (.sl 24))
def tV:Tr:=(fun(a b c d e g:X)(f:Kd)=>.must (.inr b (.len c)) true <| .ask (.bin .lss d (.len (.el c b 0 f))) (.must (.inr d (.len (.el c b 0 f))) true <| .must (.inr b (.len e)) true <| .must (.inr d (.len (.el e b 0 f))) true <| .must (.app 9 1000000 a .bool) true <| .ask (.app 9 0 a .bool) (.leaf 15 (.cut 1 [] [c,e,b,(.bin .add d g)])) (.leaf 14 (.ret [] [(.bool false)]))) (.leaf 8 (.cut 0 [] [c,e,(.bin .add b g)]))) (.cons (.el (.el (.var 9 0 (.sl 24)) (.var 9 2 (.int .i64)) 0 (.sl 29)) (.var 9 3 (.int .i64)) 0 (.int .i64)) (.cons (.el (.el (.var 9 0 (.sl 24)) (.var 9 2 (.int .i64)) 0 (.sl 29)) (.var 9 3 (.int .i64)) 1 .bool) (.cons (.el (.el (.var 9 0 (.sl 24)) (.var 9 2 (.int .i64)) 0 (.sl 29)) (.var 9 3 (.int .i64)) 2 (.int .i64)) (.cons (.el (.el (.var 9 0 (.sl 24)) (.var 9 2 (.int .i64)) 0 (.sl 29)) (.var 9 3 (.int .i64)) 3 .str) (.cons (.el (.el (.var 9 0 (.sl 24)) (.var 9 2 (.int .i64)) 0 (.sl 29)) (.var 9 3 (.int .i64)) 4 (.sl 9)) (.cons (.el (.el (.var 9 0 (.sl 24)) (.var 9 2 (.int .i64)) 0 (.sl 29)) (.var 9 3 (.int .i64)) 5 (.sl 29)) (.cons (.el (.el (.var 9 1 (.sl 24)) (.var 9 2 (.int .i64)) 0 (.sl 29)) (.var 9 3 (.int .i64)) 0 (.int .i64)) (.cons (.el (.el (.var 9 1 (.sl 24)) (.var 9 2 (.int .i64)) 0 (.sl 29)) (.var 9 3 (.int .i64)) 1 .bool) (.cons (.el (.el (.var 9 1 (.sl 24)) (.var 9 2 (.int .i64)) 0 (.sl 29)) (.var 9 3 (.int .i64)) 2 (.int .i64)) (.cons (.el (.el (.var 9 1 (.sl 24)) (.var 9 2 (.int .i64)) 0 (.sl 29)) (.var 9 3 (.int .i64)) 3 .str) (.cons (.el (.el (.var 9 1 (.sl 24)) (.var 9 2 (.int .i64)) 0 (.sl 29)) (.var 9 3 (.int .i64)) 4 (.sl 9)) (.cons (.el (.el (.var 9 1 (.sl 24)) (.var 9 2 (.int .i64)) 0 (.sl 29)) (.var 9 3 (.int .i64)) 5 (.sl 29)) .nilA)))))))))))) (.var 9 2 (.int .i64)) (.var 9 0 (.sl 24)) (.var 9 3 (.int .i64)) (.var 9 1 (.sl 24)) (.int .i64 (1)) (.sl 29)
theorem samet_ok:Pth.allS Tryz.prog lM 9 oO pC (samet.paths []):=
 ⟨Pth.rS,Pth.cS l7 rfl,
  trivial⟩
theorem Bi:Pth.allC Tryz.prog lM 9 oO pC l7 (tU.paths []):=
 ⟨Pth.rC,Pth.cC pz rfl,Pth.rC,
  trivial⟩
theorem Bj:Pth.allC Tryz.prog lM 9 oO pC pz (tV.paths []):=
 ⟨Pth.cC pz rfl,Pth.rC,Pth.cC l7 rfl,
  trivial⟩
variable {k:Nat}{G:World->Prop}
def eqL (e:List Cl->List Cl->Bool):List (List Cl)->List (List Cl)->Bool
 |[],[]=>true
 |a::p,b::q=>e a b&&eqL e p q
 |_,_=>false
theorem tW {e:List Cl->List Cl->Bool}:∀ {A B:List (List Cl)},A.length≠B.length->eqL e A B=false
 |[],[],h=>absurd rfl h
 |[],_::_,_=>rfl
 |_::_,[],_=>rfl
 |a::p,b::q,h=>by
  have:=tW (e:=e) (A:=p) (B:=q) (by simpa using h);simp[eqL,this]
theorem tX {e:List Cl->List Cl->Bool}{g:List Cl->List Cl}:∀ {A B:List (List Cl)},(∀ a∈A,∀ b∈B,(e a b=true<->g a=g b))->(eqL e A B=true<->A.map g=B.map g)
 |[],[],_=>by simp[eqL]
 |[],_::_,_=>by simp[eqL]
 |_::_,[],_=>by simp[eqL]
 |a::p,b::q,h=>by
  have ih:=tX (e:=e) (g:=g) (A:=p) (B:=q) fun x hx y hy=>h x (.tail _ hx) y (.tail _ hy)
  have h0:=h a (.head _) b (.head _);simp only[eqL,Bool.and_eq_true,List.map_cons,List.cons.injEq,ih,h0]
open Classical in
def alk (a b:List Cl):Bool:=decide (nrmR a=nrmR b)
def lh (a b:List Cl):Bool:=match a,b with
 |[.sl _ P1],[.sl _ Q1]=>eqL alk P1 Q1
 |_,_=>false
def smF:List Cl->List Cl
 |[.sl _ A,.sl _ B]=>[.bool (eqL lh A B)]
 |_=>[.bool true]
def wRow (r:List Cl):Nat:=match r with|[.sl _ P1]=>P1.length+2|_=>2
def sumW (l:List (List Cl)):Nat:=(l.map wRow).sum
def smM (_:Nat)(c:List Cl):Nat:=match c with
 |[.sl _ A,_,.int i]=>sumW (A.drop i.toNat)
 |[.sl _ A,_,.int i,.int j]=>(wRow (A.getD i.toNat [])-2-j.toNat)+1+sumW (A.drop (i.toNat+1))
 |_=>0
def smInv (n:Nat)(j:Nat)(c0 c:List Cl):Prop:=∃ nl A ml B i,c0=[.sl nl A,.sl ml B]/\0<=i/\A.length=B.length/\SizeOf.sizeOf c0<n/\
 (j=0->c=[.sl nl A,.sl ml B,.int i]/\i<=A.length/\eqL lh A B=eqL lh (A.drop i.toNat) (B.drop i.toNat))/\
 (j≠0->∃ m xl P1 yl Q1,c=[.sl nl A,.sl ml B,.int i,.int m]/\i<A.length/\A[i.toNat]? = some [.sl xl P1]/\B[i.toNat]? = some [.sl yl Q1]/\P1.length=Q1.length/\0<=m/\m<=P1.length/\ eqL lh A B=(eqL alk (P1.drop m.toNat) (Q1.drop m.toNat)&&eqL lh (A.drop (i.toNat+1)) (B.drop (i.toNat+1))))
def tbRo (n:Nat)(f:Nat)(c:List Cl):Cl:=if f=1000000 then .bool (decide (SizeOf.sizeOf c<n)) else (cV c).getD 0 .no
theorem smV {n:Nat}:Vc0 (tbRo n) 9 oO.ks (fun c=>SizeOf.sizeOf c<n) (smInv n) (fun c r=>r=smF c) samet:=by
 intro cls E hE hw hn;have hw':Wts [.sl 24,.sl 24] cls:=hw;obtain⟨a,_,rfl,h1,hw'⟩:=hw'.cons_inv;obtain⟨b,rfl,h2⟩:=hw'.one;obtain⟨nl,A,rfl,-,-,-⟩:=h1.sl_inv;obtain⟨ml,B,rfl,-,-,-⟩:=h2.sl_inv;simp only[samet,Tr.vc,To.goodT,List.map_cons,List.map_nil,hE.v,X.c_int,X.c_bool,X.c_bin,X.c_len,lenC,X.kd,binD,intD,ak,al,Cl.bool.injEq,exists_eq',true_and,and_true,Bool.not_eq_true',Bool.not_eq_false',beq_iff_eq,beq_eq_false_iff_ne,ne_eq];exact⟨fun h=>by simp only[smF];rw[tW (by omega)],fun h=>⟨nl,A,ml,B,0,rfl,by omega,by omega,hn,fun _=>⟨rfl,by omega,by simp⟩,fun h=>absurd rfl h⟩⟩
theorem smV0 {n:Nat}:Vc (· < ·) smM (tbRo n) 9 l7.ks (smInv n) (fun c r=>r=smF c) 0 tU:=by
 rintro c0 cls E hE hw ⟨nl,A,ml,B,i,rfl,h1,h4,h5,hh,-⟩;obtain⟨rfl,h2,h3⟩:=hh rfl;have hw':Wts [.sl 24,.sl 24,.int .i64] [.sl nl A,.sl ml B,.int i]:=hw;obtain⟨_,_,e,g,hw'⟩:=hw'.cons_inv;cases e;obtain⟨_,_,e,hlen,-,hA⟩:=g.sl_inv;cases e;obtain⟨_,_,e,g,hw'⟩:=hw'.cons_inv;cases e;obtain⟨_,_,e,hlen2,-,hB⟩:=g.sl_inv;cases e;have hlen':(A.length:Int)<=9223372036854775807:=by simp only[maxLen] at hlen;omega
 simp only[tU,Tr.vc,To.goodT,List.map_cons,List.map_nil,hE.v,X.c_len,X.c_int,X.c_bool,X.c_bin,X.c_inr,X.c_el,X.kd,aL,cond_true,cond_false,ak,al,lenC,binD,intD,inrD,elD,Cl.bool.injEq,decide_eq_true_eq,decide_eq_false_iff_not,exists_eq',true_and,h1];refine⟨fun hlt=>⟨hlt,by omega,?_⟩,fun hge=>?_⟩
 ·obtain⟨r,hr,hwr,hd,hm⟩:=aE hA (i:=i.toNat) (by omega)
  obtain⟨r',hr',hwr',hd',hm'⟩:=aE hB (i:=i.toNat) (by omega);obtain⟨c,rfl,hc⟩:=(show Wts [.sl 29] r from hwr).one;obtain⟨c',rfl,hc'⟩:=(show Wts [.sl 29] r' from hwr').one;obtain⟨xl,P1,rfl,-⟩:=hc.sl_inv;obtain⟨yl,Q1,rfl,-⟩:=hc'.sl_inv;have h3':=h3;rw[hd,hd'] at h3';simp only[eqL,lh] at h3';rw[hr,hr'];simp only[ak,lenC,Cl.bool.injEq,exists_eq',true_and,Bool.not_eq_true',Bool.not_eq_false',beq_iff_eq,beq_eq_false_iff_ne,ne_eq];refine⟨fun hne=>?_,fun he=>⟨⟨nl,A,ml,B,i,rfl,h1,h4,h5,fun h=>absurd h (by decide),fun _=>⟨0,xl,P1,yl,Q1,rfl,hlt,hm,hm',by omega,by omega,by omega,?_⟩⟩,?_⟩⟩
  ·simp only[smF,h3'];rw[tW (by omega),Bool.false_and]
  ·rw[h3'];simp
  ·simp only[smM,hr,wRow]
   rw[hd];simp only[sumW,List.map_cons,List.sum_cons,wRow];omega
 ·have e1:A.drop i.toNat=[]:=List.drop_eq_nil_of_le (by omega)
  have e2:B.drop i.toNat=[]:=List.drop_eq_nil_of_le (by omega);simp only[smF,h3,e1,e2,eqL]
theorem smV1 {n:Nat}:Vc (· < ·) smM (tbRo n) 9 pz.ks (smInv n) (fun c r=>r=smF c) 1 tV:=by
 rintro c0 cls E hE hw ⟨nl,A,ml,B,i,rfl,h1,h4,h5,-,hh⟩;obtain⟨m,xl,P1,yl,Q1,rfl,hi,hX,hY,hxy,m0,m1,h3⟩:=hh (by decide);have hw':Wts [.sl 24,.sl 24,.int .i64,.int .i64] [.sl nl A,.sl ml B,.int i,.int m]:=hw;obtain⟨_,_,e,g,hw'⟩:=hw'.cons_inv;cases e;obtain⟨_,_,e,hlen,-,hA⟩:=g.sl_inv;cases e;obtain⟨_,_,e,g,hw'⟩:=hw'.cons_inv;cases e;obtain⟨_,_,e,hlen2,-,hB⟩:=g.sl_inv;cases e;have hlen':(A.length:Int)<=9223372036854775807:=by simp only[maxLen] at hlen;omega
 have gX:A.getD i.toNat []=[.sl xl P1]:=by rw[List.getD_eq_getElem?_getD,hX];rfl
 have gY:B.getD i.toNat []=[.sl yl Q1]:=by rw[List.getD_eq_getElem?_getD,hY];rfl
 obtain⟨_,e,hcX⟩:=(show Wts [.sl 29] [.sl xl P1] from hA _ (List.mem_of_getElem? hX)).one;cases e;obtain⟨_,_,e,hlX,-,hWX⟩:=hcX.sl_inv;cases e;obtain⟨_,e,hcY⟩:=(show Wts [.sl 29] [.sl yl Q1] from hB _ (List.mem_of_getElem? hY)).one;cases e;obtain⟨_,_,e,hlY,-,hWY⟩:=hcY.sl_inv;cases e;have hlX':(P1.length:Int)<=9223372036854775807:=by simp only[maxLen] at hlX;omega
 simp only[tV,Tr.vc,To.goodT,List.map_cons,List.map_nil,hE.v,hE.a,X.d_cons,X.d_nil,X.c_len,X.c_int,X.c_bool,X.c_bin,X.c_inr,X.c_el,X.kd,aL,cond_true,cond_false,ak,al,lenC,binD,intD,inrD,elD,Cl.bool.injEq,decide_eq_true_eq,decide_eq_false_iff_not,exists_eq',true_and,gX,gY,h1,m0];refine⟨hi,fun hlt=>⟨hlt,by omega,by omega,?_⟩,fun hge=>?_⟩
 ·obtain⟨r,hr,hwr,hd,hm⟩:=aE hWX (i:=m.toNat) (by omega)
  obtain⟨r',hr',hwr',hd',hm'⟩:=aE hWY (i:=m.toNat) (by omega);obtain⟨ka,ba,na,sa,nla,ya,mla,ra,rfl,-⟩:=row6 hwr;obtain⟨ka',ba',na',sa',nla',ya',mla',ra',rfl,-⟩:=row6 hwr';rw[hr,hr'];have e2:(m+1).toNat=m.toNat+1:=by omega
  have hsz:SizeOf.sizeOf [Cl.int ka,.bool ba,.int na,.str sa,.sl nla ya,.sl mla ra,.int ka',.bool ba',.int na',.str sa',.sl nla' ya',.sl mla' ra']<n:=by
   have z1:=List.sizeOf_lt_of_mem (List.mem_of_getElem? hm);have z2:=List.sizeOf_lt_of_mem (List.mem_of_getElem? hm');have z3:=List.sizeOf_lt_of_mem (List.mem_of_getElem? hX);have z4:=List.sizeOf_lt_of_mem (List.mem_of_getElem? hY);simp only[List.cons.sizeOf_spec,List.nil.sizeOf_spec,Cl.sl.sizeOf_spec] at z1 z2 z3 z4 h5 ⊢;omega
  have et:tbRo n 0 [Cl.int ka,.bool ba,.int na,.str sa,.sl nla ya,.sl mla ra,.int ka',.bool ba',.int na',.str sa',.sl nla' ya',.sl mla' ra']=.bool (alk [Cl.int ka,.bool ba,.int na,.str sa,.sl nla ya,.sl mla ra] [.int ka',.bool ba',.int na',.str sa',.sl nla' ya',.sl mla' ra']):=by rw[tbRo,if_neg (by decide)];rfl
  have en:tbRo n 1000000 [Cl.int ka,.bool ba,.int na,.str sa,.sl nla ya,.sl mla ra,.int ka',.bool ba',.int na',.str sa',.sl nla' ya',.sl mla' ra']=.bool true:=by simp only[tbRo,if_true,hsz,decide_true]
  simp only[ak,al,et,en,Cl.bool.injEq,exists_eq',true_and];rw[aH (n:=m+1) (by omega) (by omega)];rw[hd,hd'] at h3;simp only[eqL] at h3;refine⟨fun hm=>⟨⟨nl,A,ml,B,i,rfl,h1,h4,h5,fun h=>absurd h (by decide),fun _=>⟨m+1,xl,P1,yl,Q1,rfl,hi,hX,hY,hxy,by omega,by omega,?_⟩⟩,?_⟩,fun hm=>?_⟩
  ·rw[h3,hm,e2,Bool.true_and]
  ·simp only[smM,gX,wRow];omega
  ·simp only[smF,h3,hm,Bool.false_and]
 ·have e1:P1.drop m.toNat=[]:=List.drop_eq_nil_of_le (by omega)
  have e2:Q1.drop m.toNat=[]:=List.drop_eq_nil_of_le (by omega);rw[aH (n:=i+1) (by omega) (by omega)];have e3:(i+1).toNat=i.toNat+1:=by omega
  refine⟨⟨nl,A,ml,B,i+1,rfl,by omega,h4,h5,fun _=>⟨rfl,by omega,?_⟩,fun h=>absurd rfl h⟩,?_⟩
  ·rw[h3,e1,e2,e3];simp[eqL]
  ·simp only[smM,e3];omega
theorem sm_ok (hG:Gd0 k G)(hk0:0<k)(hsz:Tryz.prog.globals.size<=k)(n:Nat):∃ tb,oO.Sound Tryz.prog k G tb (fun c=>SizeOf.sizeOf c<n) smF:=by
 obtain⟨tbv,hv⟩:=alike_ok hG hk0 hsz n
 letI:Tb:=⟨some (9,tbRo n)⟩
 exact⟨_,Ctr.ofT (hk:=lM) Nat.lt_wfRel.wf smM (smInv n) hG (fun D=>@aq.ctr _ (dcOf D) _ _ _ _ 9 (by kernel_rfl) _ _ _ _ hv (by kernel_rfl) _ _ (bm (fun c=>by simp[cV]) (fun c=>by simp[tbRo])) (some 1000000) (fun c h=>by simpa[tbRo] using h) hG hk0 hsz rfl) hsz (L:=9) (by kernel_rfl) rfl (trs:=[tU,tV]) (by kernel_rfl) samet_ok smV ⟨⟨Bi,smV0⟩,⟨Bj,smV1⟩,trivial⟩⟩
end Go.Proofs.Wo
end

noncomputable section
namespace Go.Proofs.Wo
open Go.Exo Go.Exo.Wo
theorem pD:∀ {ys ys':List (List Cl)},(∀ r∈ys,Wts [.str] r)->(∀ r∈ys',Wts [.str] r)->az ys=az ys'->ys=ys'
 |[],[],_,_,_=>rfl
 |[],_::_,_,_,h=>by simp[az] at h
 |_::_,[],_,_,h=>by simp[az] at h
 |y::ys,y'::ys',h1,h2,h=>by
  simp only[az,List.cons.injEq] at h;obtain⟨_,rfl,g1⟩:=(h1 y (.head _)).one;obtain⟨_,rfl,g2⟩:=(h2 y' (.head _)).one;obtain⟨s,rfl,-⟩:=g1.str_inv;obtain⟨s',rfl,-⟩:=g2.str_inv;have e:=h.1;simp only[nrmR,nrm,List.cons.injEq,Cl.str.injEq,and_true] at e;rw[e,pD (fun r hr=>h1 r (.tail _ hr)) (fun r hr=>h2 r (.tail _ hr)) h.2]
theorem may_nrm (u:List UInt8->Bool):∀ (n:Nat)(r r':List Cl),SizeOf.sizeOf r<n->Wts vK r->Wts vK r'->nrmR r=nrmR r'->mayR u r=mayR u r'/\szR r=szR r':=by
 intro n;induction n with
 |zero=>intro r r' h;omega
 |succ n ih=>
  intro r r' hs ha hb he;obtain⟨k,b0,i,s,nl,ys,ml,rs,rfl,hl,-⟩:=row6 ha;obtain⟨k',b0',i',s',nl',ys',ml',rs',rfl,hl',-⟩:=row6 hb;obtain⟨-,q2,-,q4⟩:=ls2 hl;obtain⟨-,q2',-,q4'⟩:=ls2 hl';rw[nrm6] at he;obtain⟨rfl,rfl,rfl,rfl,hy,hr⟩:=he;have ey:=pD q2 q2' hy;subst ey
  have key:∀ (l l':List (List Cl)),(∀ x∈l,x∈rs)->(∀ x∈l',x∈rs')->az l=az l'->l.length=l'.length/\l.all (mayR u)=l'.all (mayR u)/\∀ a,szRs a l=szRs a l':=by
   intro l;induction l with
   |nil=>
    intro l' _ _ h;cases l' with
    |nil=>exact⟨rfl,rfl,fun _=>rfl⟩
    |cons=>simp[az] at h
   |cons x l ihl=>
    intro l' h1 h2 h;cases l' with
    |nil=>simp[az] at h
    |cons x' l'=>
     simp only[az,List.cons.injEq] at h;have z:=List.sizeOf_lt_of_mem (h1 x (.head _));simp only[List.cons.sizeOf_spec,Cl.sl.sizeOf_spec] at hs;obtain⟨e1,e2⟩:=ih x x' (by omega) (q4 x (h1 x (.head _))) (q4' x' (h2 x' (.head _))) h.1;obtain⟨f1,f2,f3⟩:=ihl l' (fun y hy=>h1 y (.tail _ hy)) (fun y hy=>h2 y (.tail _ hy)) h.2;refine⟨by simp[f1],by simp only[List.all_cons,e1,f2],fun a=>?_⟩;show szRs (cD a (szR x)) l=szRs (cD a (szR x')) l';rw[e2];exact f3 _
  obtain⟨f1,f2,f3⟩:=key rs rs' (fun _ h=>h) (fun _ h=>h) hr;have fe:rs.isEmpty=rs'.isEmpty:=by cases rs<;>cases rs'<;>simp at f1 ⊢
  refine⟨?_,?_⟩
  ·rw[dy,dy,f1,f2]
   simp only[gm,fe]
  ·rw[oX,oX,f1,f3]
theorem Bk (u:List UInt8->Bool){r r':List Cl}(ha:Wts vK r)(hb:Wts vK r')(he:nrmR r=nrmR r'):aI u r=aI u r':=by
 obtain⟨e1,e2⟩:=may_nrm u _ r r' (Nat.lt_succ_self _) ha hb he;unfold aI;rw[e1,e2]
end Go.Proofs.Wo
end

noncomputable section
namespace Go.Proofs.Wo
open Go.Exo Go.Exo.Wo Go.Sort Go.Lib
mutual
theorem size_nrm:∀ c:Cl,SizeOf.sizeOf (nrm c)=SizeOf.sizeOf c
 |.sl nl rows=>by
  have h:=pE rows;cases nl<;>simp[nrm,h]
 |.int _|.bool _|.str _|.raw _|.no=>rfl
theorem dI:∀ l:List Cl,SizeOf.sizeOf (nrmR l)=SizeOf.sizeOf l
 |[]=>rfl
 |c::r=>by simp[nrmR,size_nrm c,dI r]
theorem pE:∀ l:List (List Cl),SizeOf.sizeOf (az l)=SizeOf.sizeOf l
 |[]=>rfl
 |c::r=>by simp[az,dI c,pE r]
end
theorem tr_nrm:∀ (n:Nat)(r r':List Cl),SizeOf.sizeOf r<n->Wts vK r->Wts vK r'->nrmR r=nrmR r'->trR r=trR r':=by
 intro n;induction n with
 |zero=>intro r r' h;omega
 |succ n ih=>
  intro r r' hs ha hb he;obtain⟨k,b0,i,s,nl,ys,ml,rs,rfl,hl,-⟩:=row6 ha;obtain⟨k',b0',i',s',nl',ys',ml',rs',rfl,hl',-⟩:=row6 hb;obtain⟨-,q2,-,q4⟩:=ls2 hl;obtain⟨-,q2',-,q4'⟩:=ls2 hl';rw[nrm6] at he;obtain⟨rfl,rfl,rfl,rfl,hy,hr⟩:=he;have ey:=pD q2 q2' hy;subst ey
  have key:∀ (l l':List (List Cl)),(∀ x∈l,x∈rs)->(∀ x∈l',x∈rs')->az l=az l'->l.length=l'.length/\∀ a,trRs a l=trRs a l':=by
   intro l;induction l with
   |nil=>
    intro l' _ _ h;cases l' with
    |nil=>exact⟨rfl,fun _=>rfl⟩
    |cons=>simp[az] at h
   |cons x l ihl=>
    intro l' h1 h2 h;cases l' with
    |nil=>simp[az] at h
    |cons x' l'=>
     simp only[az,List.cons.injEq] at h;have z:=List.sizeOf_lt_of_mem (h1 x (.head _));simp only[List.cons.sizeOf_spec,Cl.sl.sizeOf_spec] at hs;have e1:=ih x x' (by omega) (q4 x (h1 x (.head _))) (q4' x' (h2 x' (.head _))) h.1;obtain⟨f1,f3⟩:=ihl l' (fun y hy=>h1 y (.tail _ hy)) (fun y hy=>h2 y (.tail _ hy)) h.2;refine⟨by simp[f1],fun a=>?_⟩;show trRs (aQ a (trR x)) l=trRs (aQ a (trR x')) l';rw[e1];exact f3 _
  obtain⟨f1,f3⟩:=key rs rs' (fun _ h=>h) (fun _ h=>h) hr;rw[jL,jL,f1,f3]
theorem T3.le {x y z:Int}(h:T3 x y z)(h1:x<=0)(h2:y<=0):z<=0:=by
 obtain⟨a,b,c⟩:=h;by_cases e:x=0
 ·have:=a e;omega
 ·by_cases e':y=0
  ·have:=b e';omega
  ·have:=c (by omega) (by omega);omega
structure OrdOn (P:List Cl->Prop)(o:List Cl->List Cl->Int):Prop where
 anti:∀ x y,P x->P y->o y x = - o x y
 t3:∀ x y z,P x->P y->P z->T3 (o x y) (o y z) (o x z)
 zero:∀ x y,P x->P y->(o x y=0<->nrmR x=nrmR y)
theorem wc {P:List Cl->Prop}{o:List Cl->List Cl->Int}(H:OrdOn P o){X Y:List (List Cl)}(hX:∀ x∈X,P x)(hY:∀ x∈Y,P x)(sX:X.Pairwise (fun a b=>o a b<=0))(sY:Y.Pairwise (fun a b=>o a b<=0))(hp:(X.map nrmR).Perm (Y.map nrmR)):X.map nrmR=Y.map nrmR:=by
 have pw:∀ {Z:List (List Cl)},(∀ x∈Z,P x)->Z.Pairwise (fun a b=>o a b<=0)->(Z.map nrmR).Pairwise (fun u v=>∃ x y,P x/\P y/\nrmR x=u/\nrmR y=v/\o x y<=0):=fun {Z} hZ h=>by
  rw[List.pairwise_map];exact h.imp_of_mem fun ha hb hab=>⟨_,_,hZ _ ha,hZ _ hb,rfl,rfl,hab⟩
 refine List.Perm.eq_of_pairwise (le:=fun u v=>∃ x y,P x/\P y/\nrmR x=u/\nrmR y=v/\o x y<=0) (fun u v _ _ h1 h2=>?_) (pw hX sX) (pw hY sY) hp;obtain⟨x,y,px,py,rfl,rfl,hxy⟩:=h1;obtain⟨y',x',py',px',ey,ex,hyx⟩:=h2;have z1:o y y'=0:=(H.zero y y' py py').2 ey.symm;have z2:o x' x=0:=(H.zero x' x px' px).2 ex;have t1:=H.t3 y y' x' py py' px';have t2:=H.t3 y x' x py px' px;have h3:o y x'<=0:=t1.le (by omega) hyx;have h4:o y x<=0:=t2.le h3 (by omega);have h5:=H.anti x y px py;exact (H.zero x y px py).1 (by omega)
theorem jR {P:List Cl->Prop}{o:Cl->Cl->Int}(H:OrdOn P fun a b=>o (a.getD 0 .no) (b.getD 0 .no)):∀ (n:Nat)(A B:List (List Cl)),A.length+B.length<=n->(∀ x∈A,P x)->(∀ x∈B,P x)->
  A.Pairwise (fun a b=>o (a.getD 0 .no) (b.getD 0 .no)<=0)->B.Pairwise (fun a b=>o (a.getD 0 .no) (b.getD 0 .no)<=0)->(mrg o A B).Pairwise (fun a b=>o (a.getD 0 .no) (b.getD 0 .no)<=0)
 |_,[],B,_,_,_,_,hB=>by rw[mrg];exact hB
 |_,a::A,[],_,_,_,hA,_=>by rw[mrg];exact hA
 |0,a::A,b::B,h,_,_,_,_=>by simp at h
 |n+1,a::A,b::B,h,pA,pB,hA,hB=>by
  rw[List.pairwise_cons] at hA hB;rw[mrg];have pa:=pA a (.head _);have pb:=pB b (.head _);split
  ·rename_i hle
   refine List.pairwise_cons.2 ⟨fun z hz=>?_,jR H n A (b::B) (by simp at h ⊢;omega) (fun x hx=>pA x (.tail _ hx)) pB hA.2 (List.pairwise_cons.2 hB)⟩;rcases List.mem_append.1 ((ii _ _ _ (am _)).mem_iff.1 hz) with hz|hz
   ·exact hA.1 z hz
   ·rcases List.mem_cons.1 hz with rfl|hz
    ·exact hle
    ·exact (H.t3 a b z pa pb (pB z (.tail _ hz))).le hle (hB.1 z hz)
  ·rename_i hle
   have hba:o (b.getD 0 .no) (a.getD 0 .no)<=0:=by have:=H.anti a b pa pb;omega
   refine List.pairwise_cons.2 ⟨fun z hz=>?_,jR H n (a::A) B (by simp at h ⊢;omega) pA (fun x hx=>pB x (.tail _ hx)) (List.pairwise_cons.2 hA) hB.2⟩;rcases List.mem_append.1 ((ii _ _ _ (am _)).mem_iff.1 hz) with hz|hz
   ·rcases List.mem_cons.1 hz with rfl|hz
    ·exact hba
    ·exact (H.t3 b a z pb pa (pA z (.tail _ hz))).le hba (hA.1 z hz)
   ·exact hB.1 z hz
theorem ij {P:List Cl->Prop}{o:Cl->Cl->Int}(H:OrdOn P fun a b=>o (a.getD 0 .no) (b.getD 0 .no)):∀ (m:Nat)(l:List (List Cl)),l.length<m->(∀ x∈l,P x)->(ordL o m l).Pairwise (fun a b=>o (a.getD 0 .no) (b.getD 0 .no)<=0)
 |0,l,h,_=>by omega
 |m+1,l,h,hP=>by
  rw[ordL];split
  ·rename_i hl
   match l,hl with
   |[],_=>exact List.Pairwise.nil
   |[a],_=>exact List.pairwise_singleton _ _
   |_::_::_,hl=>simp at hl;omega
  ·rename_i hl
   refine jR H _ _ _ (am _) (fun x hx=>hP x (List.mem_of_mem_take ((cF _ _).mem_iff.1 hx))) (fun x hx=>hP x (List.mem_of_mem_drop ((cF _ _).mem_iff.1 hx)))
    (ij H m _ (by rw[List.length_take];omega) fun x hx=>hP x (List.mem_of_mem_take hx)) (ij H m _ (by rw[List.length_drop];omega) fun x hx=>hP x (List.mem_of_mem_drop hx))
def PR (C:List Cl->Int)(N:Nat)(r:List Cl):Prop:=∃ nl d,r=[Cl.sl nl d]/\Fine C N d
def oR (C:List Cl->Int)(N:Nat)(a b:List Cl):Int:=lsC (vcN C N) (eM (a.getD 0 .no)) (eM (b.getD 0 .no))
theorem PR.ord {C:List Cl->Int}{N:Nat}:OrdOn (PR C N) (oR C N) where
 anti:=by rintro x y ⟨nl,d,rfl,h⟩ ⟨nl',d',rfl,h'⟩;exact dH h h'
 t3:=by rintro x y z ⟨nl,d,rfl,h⟩ ⟨nl',d',rfl,h'⟩ ⟨nl'',d'',rfl,h''⟩;exact ni h h' h''
 zero:=by
  rintro x y ⟨nl,d,rfl,h⟩ ⟨nl',d',rfl,h'⟩;refine (Bc h h').trans ?_;simp only[nrmR,nrm,List.cons.injEq,Cl.sl.injEq,true_and,and_true]
theorem mF {C:List Cl->Int}{N:Nat}{A B:List (List Cl)}(ha:Fine C N A)(hb:Fine C N B):lsC (rcN N) A B=lsC (vcN C N) A B:=by
 rw[jQ ha hb];exact nh fun a h b h'=>rcN_cmpN validD validD N a b (ha.z a h) (ha.w a h) (hb.w b h') (ha.m a h) (hb.m b h')
theorem PR.ref {C:List Cl->Int}{N:Nat}:OrdOn (PR C N) fun a b=>oRef N (a.getD 0 .no) (b.getD 0 .no) where
 anti:=by
  rintro x y ⟨nl,d,rfl,h⟩ ⟨nl',d',rfl,h'⟩;show lsC (rcN N) d' d = - lsC (rcN N) d d';rw[mF h h',mF h' h];exact dH h h'
 t3:=by
  rintro x y z ⟨nl,d,rfl,h⟩ ⟨nl',d',rfl,h'⟩ ⟨nl'',d'',rfl,h''⟩;show T3 (lsC (rcN N) d d') (lsC (rcN N) d' d'') (lsC (rcN N) d d'');rw[mF h h',mF h' h'',mF h h''];exact ni h h' h''
 zero:=by
  rintro x y ⟨nl,d,rfl,h⟩ ⟨nl',d',rfl,h'⟩;show lsC (rcN N) d d'=0<->_;rw[mF h h'];exact PR.ord.zero _ _ ⟨nl,d,rfl,h⟩ ⟨nl',d',rfl,h'⟩
structure Rg (C:List Cl->Int)(M:Nat) where
 c:Cl
 q:Good C M c
 w:Wt (.sl 29) c
instance {C:List Cl->Int}{M:Nat}:Inhabited (Rg C M):=⟨⟨.sl true [],⟨⟨_,_,rfl⟩,fun r h=>(by cases h),by simp⟩,.nil 29⟩⟩
def Rg.d {C:List Cl->Int}{M:Nat}(x:Rg C M):RowC:=(x.c:Cl)
theorem Rg.pr {C:List Cl->Int}{M:Nat}(x:Rg C M):PR C (dp M) [x.c]:=by
 obtain⟨nl,d,e⟩:=x.q.sl;have hw:=x.w;have hs:=x.q.sz;have ha:=x.q.all;rw[e] at hw hs ha ⊢;obtain⟨_,_,e',-,-,hr⟩:=hw.sl_inv;cases e';refine⟨nl,d,rfl,hr,fun r h=>(ha r h).1,fun r h=>(ha r h).2,fun r h=>?_⟩;have z:=List.sizeOf_lt_of_mem (show r∈d from h);simp only[Cl.sl.sizeOf_spec] at hs;show _<2*M+40;omega
def cfG {C:List Cl->Int}{M:Nat}(a b:Rg C M):Int:=oR C (dp M) [a.c] [b.c]
theorem Rg.swo {C:List Cl->Int}{M:Nat}:SWO (ltC (cfG (C:=C) (M:=M))) where
 irrefl x:=by
  have h:cfG x x = - cfG x x:=PR.ord.anti _ _ x.pr x.pr;unfold ltC;exact decide_eq_false (by omega)
 trans x y z h1 h2:=by
  have h1:cfG x y<0:=of_decide_eq_true h1;have h2:cfG y z<0:=of_decide_eq_true h2;exact decide_eq_true ((PR.ord.t3 _ _ _ x.pr y.pr z.pr).2.2 h1 h2)
 ntrans x y z h1 h2:=by
  have h1:¬ cfG x y<0:=of_decide_eq_false h1;have h2:¬ cfG y z<0:=of_decide_eq_false h2;have a1:cfG y x = - cfG x y:=PR.ord.anti _ _ x.pr y.pr;have a2:cfG z y = - cfG y z:=PR.ord.anti _ _ y.pr z.pr;have a3:cfG z x = - cfG x z:=PR.ord.anti _ _ x.pr z.pr;have t:cfG z x<=0:=(PR.ord.t3 _ _ _ z.pr y.pr x.pr).le (show cfG z y<=0 by omega) (show cfG y x<=0 by omega);exact decide_eq_false (by omega)
theorem zP {C:List Cl->Int}{M:Nat}:∀ (out:List Cl),(∀ c∈out,Good C M c/\Wt (.sl 29) c)->∃ l:List (Rg C M),l.map Rg.c=out
 |[],_=>⟨[],rfl⟩
 |c::out,h=>by
  obtain⟨l,e⟩:=zP out fun c hc=>h c (.tail _ hc)
  exact⟨⟨c,(h c (.head _)).1,(h c (.head _)).2⟩::l,by simp[e]⟩
theorem Bl {C:List Cl->Int}{M:Nat}{out:List Cl}(h40:out.length<=40)(h:∀ c∈out,Good C M c/\Wt (.sl 29) c) :
  ∃ X:List Cl,((stab (ltC (cfD C (dp M))) (arrC out)).toList.map fun c=>[RowC.cl c])=X.map (fun c=>[c])/\X.Perm out/\(∀ c∈X,PR C (dp M) [c])/\(X.map fun c=>[c]).Pairwise (fun a b=>oR C (dp M) a b<=0):=by
 obtain⟨l,e⟩:=zP out h;have hl:l.length=out.length:=by rw[<- e,List.length_map]
 obtain⟨P,S⟩:=zK (Rg.swo (C:=C) (M:=M)) l.toArray (by simp;omega);have nat:=vZ (α:=Rg C M) (β:=RowC) (f:=Rg.d) (lt:=ltC (cfG (C:=C) (M:=M))) (lt':=ltC (cfD C (dp M))) rfl (fun x y=>rfl) l.toArray
 have ed:l.toArray.map Rg.d=arrC out:=by
  apply Array.toList_inj.1;rw[Array.toList_map];exact e
 rw[ed] at nat;generalize stab (ltC (cfG (C:=C) (M:=M))) l.toArray=T at P S nat;have hz:T.size=l.length:=by rw[P.1];simp
 have hp:T.toList.Perm l:=by
  have:=P.2.2;rw[Array.extract_eq_self_of_le (by rw[hz];simp),Array.extract_eq_self_of_le (am _)] at this;simpa using this
 refine⟨T.toList.map Rg.c,?_,by rw[<- e];exact hp.map _,fun c hc=>?_,?_⟩
 ·rw[<- nat,Array.toList_map,List.map_map,List.map_map];rfl
 ·obtain⟨x,-,rfl⟩:=List.mem_map.1 hc
  exact x.pr
 ·rw[List.map_map,List.pairwise_map,List.pairwise_iff_getElem]
  intro i j hi hj hij;have:=S i j (Nat.zero_le _) hij (by simp only[Array.length_toList] at hj;simp;omega);simp only[Array.length_toList] at hi hj;rw[getElem!_pos T i hi,getElem!_pos T j hj] at this;have h1:¬ cfG T[j] T[i]<0:=of_decide_eq_false this;have h2:cfG T[j] T[i] = - cfG T[i] T[j]:=PR.ord.anti _ _ (Rg.pr _) (Rg.pr _);have h3:cfG T[i] T[j]<=0:=by omega
  exact h3
end Go.Proofs.Wo
end

noncomputable section
namespace Go.Proofs.Wo
open Go.Exo Go.Exo.Wo Go.Sort Go.Lib
def trOk (v:List Cl):Prop:=(trR v).1<big/\1+(trR v).2.1<big/\(trR v).2.2.1<big
def ru (r:List Cl):Prop:=∃ xl d,r=[Cl.sl xl d]/\d.length<=10/\∀ v∈d,aI validD v=0
def l8 (M:Nat)(c:List Cl):Prop:=4*SizeOf.sizeOf c+50<M/\∀ nl rows,c=[Cl.sl nl rows]->∀ r∈rows,∀ xl d,r=[Cl.sl xl d]->∀ v∈d,trOk v
def FcOk (Fc:List Cl->List Cl):Prop:=∀ c,Wts vK c->Wts vK (Fc c)/\nrmR (Fc c)=nrmR c
abbrev Cm (M:Nat):List Cl->Int:=chkN validD (dp M)
theorem zQ {v:List Cl}(h:aI validD v=0):mayR validD v=true:=by
 unfold aI at h;by_cases h1:mayR validD v=true
 ·exact h1
 ·rw[if_neg h1] at h;cases h
theorem v_good {M:Nat}{v:List Cl}(hw:Wts vK v)(ht:trOk v)(hs:SizeOf.sizeOf v<M)(hc:aI validD v=0):mayR validD v=true/\Cm M v=0:=
 ⟨zQ hc,by
  show chkN validD (dp M) v=0
  rw[AZ validD (dp M) v (by show _<2*M+40;omega) hw ht.1 ht.2.1 ht.2.2];exact hc⟩
theorem fc_good {Fc:List Cl->List Cl}(hF:FcOk Fc){M:Nat}{v:List Cl}(hw:Wts vK v)(ht:trOk v)(hs:SizeOf.sizeOf v<M)(hc:aI validD v=0):mayR validD (Fc v)=true/\Cm M (Fc v)=0:=by
 obtain⟨w',e⟩:=hF v hw;have es:SizeOf.sizeOf (Fc v)=SizeOf.sizeOf v:=by rw[<- dI (Fc v),e,dI]
 refine v_good w' ?_ (by omega) ((Bk validD w' hw e).trans hc);unfold trOk;rw[tr_nrm _ (Fc v) v (Nat.lt_succ_self _) w' hw e];exact ht
theorem size_map {Fc:List Cl->List Cl}(hF:FcOk Fc):∀ {d:List (List Cl)},(∀ v∈d,Wts vK v)->SizeOf.sizeOf (d.map Fc)=SizeOf.sizeOf d/\az (d.map Fc)=az d
 |[],_=>⟨rfl,rfl⟩
 |v::d,h=>by
  obtain⟨e1,e2⟩:=size_map hF (d:=d) fun x hx=>h x (.tail _ hx)
  obtain⟨w',e⟩:=hF v (h v (.head _));have es:SizeOf.sizeOf (Fc v)=SizeOf.sizeOf v:=by rw[<- dI (Fc v),e,dI]
  refine⟨?_,?_⟩
  ·simp only[List.map_cons,List.cons.sizeOf_spec,es,e1]
  ·simp only[List.map_cons,az,e,e2]
theorem wt_rows {d:List (List Cl)}{b:Bool}(hb:b=true->d=[])(hl:d.length<=maxLen)(h:∀ v∈d,Wts vK v):Wt (.sl 29) (.sl b d):=by
 cases b with
 |true=>rw[hb rfl];exact .nil 29
 |false=>
  refine .sl 29 d hl (fun i r hr=>(h r (List.mem_of_getElem? hr)).length.symm) fun i r j c k hr hc hk=>?_
  obtain⟨c',hc',hw⟩:=(h r (List.mem_of_getElem? hr)).get j k hk;rw[hc] at hc';cases hc';exact hw
theorem tY {Fc:List Cl->List Cl}(hF:FcOk Fc){M:Nat}{xl:Bool}{d:List (List Cl)}(hd:d.length<=10)(hw:∀ v∈d,Wts vK v)(ht:∀ v∈d,trOk v)(hc:∀ v∈d,aI validD v=0)(hs:SizeOf.sizeOf (Cl.sl xl d)<=M) :
  Good (Cm M) M (je Fc (.sl xl d))/\Wt (.sl 29) (je Fc (.sl xl d))/\nrmR [je Fc (.sl xl d)]=nrmR [.sl xl d]/\SizeOf.sizeOf (je Fc (.sl xl d))=SizeOf.sizeOf (Cl.sl xl d):=by
 obtain⟨e1,e2⟩:=size_map hF hw
 have hz:SizeOf.sizeOf (je Fc (.sl xl d))=SizeOf.sizeOf (Cl.sl xl d):=by
  show SizeOf.sizeOf (Cl.sl d.isEmpty (d.map Fc))=_;simp only[Cl.sl.sizeOf_spec,e1];cases xl<;>cases d.isEmpty<;>rfl
 refine⟨⟨⟨_,_,rfl⟩,fun r hr=>?_,by rw[hz];omega⟩,wt_rows (fun h=>by rw[List.isEmpty_iff.1 h];rfl) (by rw[List.length_map];unfold maxLen;omega) (fun r hr=>?_),?_,hz⟩
 ·obtain⟨v,hv,rfl⟩:=List.mem_map.1 (show r∈d.map Fc from hr)
  have z:=List.sizeOf_lt_of_mem hv;simp only[Cl.sl.sizeOf_spec] at hs;exact fc_good hF (hw v hv) (ht v hv) (by omega) (hc v hv)
 ·obtain⟨v,hv,rfl⟩:=List.mem_map.1 hr
  exact (hF v (hw v hv)).1
 ·show nrmR [Cl.sl d.isEmpty (d.map Fc)]=_
  simp only[nrmR,nrm,e2]
theorem mG {l l':List (List Cl)}(h:l.Perm l'):SizeOf.sizeOf l=SizeOf.sizeOf l':=by
 induction h with
 |nil=>rfl
 |cons x _ ih=>simp only[List.cons.sizeOf_spec,ih]
 |swap x y l=>simp only[List.cons.sizeOf_spec];omega
 |trans _ _ h1 h2=>exact h1.trans h2
theorem Bn {C:List Cl->Int}{N:Nat}{a b:List Cl}(ha:PR C N a)(hb:PR C N b):lh a b=true<->nrmR a=nrmR b:=by
 obtain⟨nl,d,rfl,-⟩:=ha;obtain⟨nl',d',rfl,-⟩:=hb;show eqL alk d d'=true<->_;rw[tX (g:=nrmR) fun x _ y _=>by simp[alk]];simp only[nrmR,nrm,List.cons.injEq,Cl.sl.injEq,true_and,and_true,kG]
structure RowsG (M:Nat)(nl:Bool)(rows:List (List Cl)):Prop where
 few:rows.length<=40
 sz:4*SizeOf.sizeOf [Cl.sl nl rows]+50<M
 w:∀ r∈rows,Wts [.sl 29] r
 ok:∀ r∈rows,ru r
 t:∀ r∈rows,∀ xl d,r=[Cl.sl xl d]->∀ v∈d,trOk v
variable {M:Nat}{nl:Bool}{rows:List (List Cl)}{Fc:List Cl->List Cl}
theorem RowsG.row (h:RowsG M nl rows){r:List Cl}(hr:r∈rows):∃ xl d,r=[Cl.sl xl d]/\d.length<=10/\(∀ v∈d,Wts vK v)/\(∀ v∈d,trOk v)/\(∀ v∈d,aI validD v=0)/\4*SizeOf.sizeOf [Cl.sl xl d]+50<M:=by
 obtain⟨xl,d,rfl,hd,hc⟩:=h.ok r hr;obtain⟨_,e,hw⟩:=(h.w _ hr).one;cases e;obtain⟨_,_,e,-,-,hv⟩:=hw.sl_inv;cases e;have z:=List.sizeOf_lt_of_mem hr;have hs:=h.sz;simp only[List.cons.sizeOf_spec,List.nil.sizeOf_spec,Cl.sl.sizeOf_spec] at z hs;refine⟨xl,d,rfl,hd,hv,h.t _ hr _ _ rfl,hc,?_⟩;simp only[List.cons.sizeOf_spec,List.nil.sizeOf_spec,Cl.sl.sizeOf_spec];omega
theorem RowsG.pr (h:RowsG M nl rows){r:List Cl}(hr:r∈rows):PR (Cm M) (dp M) r:=by
 obtain⟨xl,d,rfl,-,hw,ht,hc,hs⟩:=h.row hr;refine⟨xl,d,rfl,hw,fun v hv=>zQ (hc v hv),fun v hv=>?_,fun v hv=>?_⟩
 all_goals
  have z:=List.sizeOf_lt_of_mem hv;simp only[List.cons.sizeOf_spec,List.nil.sizeOf_spec,Cl.sl.sizeOf_spec] at hs
 ·exact (v_good (hw v hv) (ht v hv) (by omega) (hc v hv)).2
 ·show _<2*M+40;omega
theorem RowsG.ordP (hF:FcOk Fc)(h:RowsG M nl rows):OrdP Fc (Cm M) M M rows:=by
 refine⟨h.few,fun r hr=>?_⟩;obtain⟨xl,d,rfl,hd,hw,ht,hc,hs⟩:=h.row hr;simp only[List.cons.sizeOf_spec,List.nil.sizeOf_spec,Cl.sl.sizeOf_spec] at hs;refine⟨xl,d,rfl,hd,fun v hv=>⟨xM (hw v hv) (hc v hv),?_⟩,(tY hF hd hw ht hc (by simp only[Cl.sl.sizeOf_spec];omega)).1⟩;have z:=List.sizeOf_lt_of_mem hv;omega
theorem RowsG.ordPre (h:RowsG M nl rows):ordPre (dp M) 42 [Cl.sl nl rows]:=by
 refine⟨nl,rows,rfl,by have:=h.few;omega,h.few,fun r hr=>?_⟩;obtain⟨xl,d,rfl,hd,hw,ht,hc,hs⟩:=h.row hr;exact⟨xl,d,rfl,by show _<2*M+40;omega⟩
theorem RowsG.same (hF:FcOk Fc)(h:RowsG M nl rows):∃ X Y b b',ordF Fc (Cm M) M [Cl.sl nl rows]=[.sl b X]/\ordG (oRef (dp M)) 42 [Cl.sl nl rows]=[.sl b' Y]/\eqL lh X Y=true/\SizeOf.sizeOf [Cl.sl b X,.sl b' Y]<M:=by
 have hcp:∀ c∈bq Fc rows,Good (Cm M) M c/\Wt (.sl 29) c:=fun c hc=>by
  obtain⟨r,hr,rfl⟩:=List.mem_map.1 hc;obtain⟨xl,d,rfl,hd,hw,ht,hc,hs⟩:=h.row hr;simp only[List.cons.sizeOf_spec,List.nil.sizeOf_spec,Cl.sl.sizeOf_spec] at hs;obtain⟨a,b,-,-⟩:=tY hF (xl:=xl) hd hw ht hc (M:=M) (by simp only[Cl.sl.sizeOf_spec];omega);exact⟨a,b⟩
 obtain⟨X,eX,pX,gX,sX⟩:=Bl (M:=M) (by simp only[bq,List.length_map];exact h.few) hcp
 have key:∀ l:List (List Cl),(∀ r∈l,r∈rows)->((bq Fc l).map fun c=>[c]).map nrmR=l.map nrmR/\SizeOf.sizeOf ((bq Fc l).map fun c=>[c])=SizeOf.sizeOf l:=by
  intro l;induction l with
  |nil=>intro _;exact⟨rfl,rfl⟩
  |cons r l ih=>
   intro hl;obtain⟨e1,e2⟩:=ih fun x hx=>hl x (.tail _ hx)
   obtain⟨xl,d,rfl,hd,hw,ht,hc,hs⟩:=h.row (hl r (.head _));simp only[List.cons.sizeOf_spec,List.nil.sizeOf_spec,Cl.sl.sizeOf_spec] at hs;obtain⟨-,-,a,b⟩:=tY hF (xl:=xl) hd hw ht hc (M:=M) (by simp only[Cl.sl.sizeOf_spec];omega);have e0:bq Fc ([Cl.sl xl d]::l)=je Fc (.sl xl d)::bq Fc l:=rfl;rw[e0];refine⟨?_,?_⟩
   ·simp only[List.map_cons,e1,a]
   ·simp only[List.map_cons,List.cons.sizeOf_spec,List.nil.sizeOf_spec,b,e2]
 obtain⟨k1,k2⟩:=key rows fun _ h=>h
 have hY:=cF (o:=oRef (dp M)) 42 rows;have sY:=ij (PR.ref (C:=Cm M) (N:=dp M)) 42 rows (by have:=h.few;omega) fun r hr=>h.pr hr
 have gY:∀ y∈ordL (oRef (dp M)) 42 rows,PR (Cm M) (dp M) y:=fun y hy=>h.pr (hY.mem_iff.1 hy)
 have gX':∀ x∈X.map (fun c=>[c]),PR (Cm M) (dp M) x:=fun x hx=>by
  obtain⟨c,hc,rfl⟩:=List.mem_map.1 hx;exact gX c hc
 have sY':(ordL (oRef (dp M)) 42 rows).Pairwise (fun a b=>oR (Cm M) (dp M) a b<=0):=sY.imp_of_mem fun {a b} ha hb hab=>by
  obtain⟨nl,d,rfl,h1⟩:=gY a ha;obtain⟨nl',d',rfl,h2⟩:=gY b hb;show lsC (vcN _ _) d d'<=0;rw[<- mF h1 h2];exact hab
 have hp:((X.map fun c=>[c]).map nrmR).Perm ((ordL (oRef (dp M)) 42 rows).map nrmR):=by
  have a:=(pX.map (fun c=>[c])).map nrmR;rw[k1] at a;exact a.trans (hY.map nrmR).symm
 have e:=wc PR.ord gX' gY sX sY' hp;refine⟨_,_,_,_,rfl,rfl,?_,?_⟩
 ·rw[eX,tX (g:=nrmR) fun x hx y hy=>Bn (gX' x hx) (gY y hy)]
  exact e
 ·rw[eX]
  have z1:=mG (pX.map fun c=>[c]);have z2:=mG hY;have hs:=h.sz;rw[k2] at z1;simp only[List.cons.sizeOf_spec,List.nil.sizeOf_spec,Cl.sl.sizeOf_spec] at hs ⊢;have q1:SizeOf.sizeOf nl=1:=by cases nl<;>rfl
  have q2:SizeOf.sizeOf rows.isEmpty=1:=by cases rows.isEmpty<;>rfl
  rw[z1,z2];omega
theorem RowsG.less (h:RowsG M nl rows){r r':List Cl}(hr:r∈rows)(hr':r'∈rows):∃ xl d yl d',r=[Cl.sl xl d]/\r'=[Cl.sl yl d']/\SizeOf.sizeOf [Cl.sl xl d,.sl yl d']<dp M/\lsC (rcN (dp M)) d d'=lsC (vcN (Cm M) (dp M)) d d':=by
 obtain⟨xl,d,rfl,-,-,-,-,hs⟩:=h.row hr;obtain⟨yl,d',rfl,-,-,-,-,hs'⟩:=h.row hr';obtain⟨_,_,e,g1⟩:=h.pr hr;obtain⟨_,_,e',g2⟩:=h.pr hr';cases e;cases e';refine⟨xl,d,yl,d',rfl,rfl,?_,mF g1 g2⟩;simp only[List.cons.sizeOf_spec,List.nil.sizeOf_spec] at hs hs' ⊢;show _<2*M+40;omega
end Go.Proofs.Wo
end
