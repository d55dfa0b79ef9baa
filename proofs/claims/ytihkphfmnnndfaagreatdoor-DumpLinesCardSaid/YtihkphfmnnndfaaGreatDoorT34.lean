/-
 Part 34 of the proof of Rows.DumpLinesCardSaid. No conditions.
-/
import Derived.Test.YtihkphfmnnndfaaGreatDoorT33
import Derived.Laws.RangeAny
namespace Go.PanE
open Go.Proofs
theorem zcU{env:Env}{h:Heap}{t e:TypeId}{sz by_ l:Nat}{base:OA}{x:Value}(S:SlT env t e sz by_)(hx:jA x=some 0)(hs:zY h sz none x=some []):
  zu env h #[t,t] (.slice base l l) x=some (.slice base l l,h):=by
 obtain⟨z,hz,hzs⟩:=S.zero
 have p:=S.pos
 have c1:(vI (.slice e) || Nat.beq sz 0 || !Nat.beq ([]:Vs).length (0 * sz) || !Nat.beq z.cells.size sz)=false:=by
  have h1:Nat.beq sz 0=false:=T.beq_false (by omega)
  rw[hzs,Nat.beq_refl,h1,Nat.zero_mul];rfl
 have h2:Nat.beq 0 0=true:=rfl
 have h3:Nat.ble l l=true:=by rw[Nat.ble_eq];exact nL_ l
 unfold zu
 simp only[List.getElem?_toArray,List.getElem?_cons_zero,List.getElem?_cons_succ,S.und,S.size,S.bytes,hz,hx,hs,c1,Bool.false_eq_true,if_false,h2,h3,if_true]
theorem zeg{env:Env}{h:Heap}{t e:TypeId}{sz by_ b0 l b o n c:Nat}{el e0:TypeId}{cells cs xs:Vs}{es:Nat}{ro ro0:Bool}(S:SlT env t e sz by_)(h0:h.get b0=some (.row e0 cells 0 ro0))(h0l:cells.length=l * sz)
  (hg:h.get b=some (.row el cs es ro)) (hx:(cs.drop o).take (n * sz)=xs) (hl:xs.length=n * sz)
  (hn:0 < n) (hb:(2 * (l+n)+1000) * (by_+1)≤281474976710656):
  zu env h #[t,t] (.slice (some ⟨b0,0,none⟩) l l) (.slice (some ⟨b,o,none⟩) n c)=some (.slice (some ⟨h.nx,0,none⟩) (l+n) (l+n),h.alloc (.row e (cells++xs) sz false)):=by
 obtain⟨z,hz,hzs⟩:=S.zero
 have hsrc:=zey (n:=n) (c:=c) hg hx hl
 have p:=S.pos
 have c1:(vI (.slice e) || Nat.beq sz 0 || !Nat.beq xs.length (n * sz) || !Nat.beq z.cells.size sz)=false:=by
  have h1:Nat.beq sz 0=false:=T.beq_false (by omega)
  rw[hl,hzs,Nat.beq_refl,Nat.beq_refl,h1];rfl
 unfold zu
 simp only[List.getElem?_toArray,List.getElem?_cons_zero,List.getElem?_cons_succ,S.und,S.size,S.bytes,hz,jA,hsrc,c1,Bool.false_eq_true,if_false]
 have h2:Nat.beq n 0=false:=T.beq_false (by omega)
 have h3:Nat.ble (l+n) l=false:=by
  cases e:Nat.ble (l+n) l with
  |false=>rfl
  |true=>rw[Nat.ble_eq] at e;omega
 have h4:Nat.ble ((2 * (l+n)+1000) * (by_+1)) 281474976710656=true:=by rw[Nat.ble_eq];exact hb
 have h5:jy env h e b0 0 l=some false:=by
  unfold jy
  rw[h0,S.size]
  simp only[if_true]
 have h6:zY h sz (some l) (.slice (some ⟨b0,0,none⟩) l l)=some cells:=by
  simp only[zY,h0,Option.getD_some,List.drop_zero]
  rw[List.take_of_length_le (by omega),if_pos (by rw[h0l];exact Nat.beq_refl _)]
 simp only[h2,h3,h4,h5,h6,Bool.false_eq_true,if_false,if_true]
def QR(h:Heap)(lo:Nat)(r:OA)(n:Nat)(cs:Vs):Prop:=
 cs.length=n * 10∧((r=none∧n=0)∨∃ q es,r=some ⟨q,0,none⟩∧lo≤q∧(es=0∨es=10)∧h.get q=some (.row 72 cs es false))
theorem QR.mono{h g:Heap}{lo:Nat}{r:OA}{n:Nat}{cs:Vs}(Q:QR h lo r n cs)(k:∀ c o,lo≤c→h.get c=some o→g.get c=some o):QR g lo r n cs:=
 ⟨Q.1,Q.2.imp id fun⟨q,es,a,b,c,d⟩=>⟨q,es,a,b,c,k q _ b d⟩⟩
def zu7(h:Heap)(x:Value)(k:Nat)(xs:Vs):Prop:=
 (k=0∧xs=[]∧jA x=some 0∧zY h 10 none x=some [])∨∃ b cb es ro,x=sv b 0 k k∧0 < k∧h.get b=some (.row 72 cb es ro)∧cb.take (k * 10)=xs∧xs.length=k * 10∧xs.all jh=true
theorem ze3{h:Heap}{lo:Nat}{r:OA}{n k:Nat}{cs xs:Vs}{x:Value}(Q:QR h lo r n cs)(S:zu7 h x k xs)(hl:n+k≤5000)(hlo:lo≤h.nx):
  ∃ r' h',zu En h #[70,70] (.slice r n n) x=some (.slice r' (n+k) (n+k),h')∧QR h' lo r' (n+k) (cs++xs)∧h.nx≤h'.nx∧(∀ c,c < lo→h'.get c=h.get c)∧min lo h.wm≤h'.wm:=by
 rcases S with⟨rfl,rfl,s1,s2⟩|⟨b,cb,es,ro,rfl,hk,hg,hx,hxl,hone⟩
 ·rw[List.append_nil]
  exact⟨r,h,zcU zaE s1 s2,Q,nL_ _,fun _ _=>rfl,Nat.min_le_right _ _⟩
 have hbd:(2 * (n+k)+1000) * (112+1)≤281474976710656:=by omega
 have hxd:(cb.drop 0).take (k * 10)=xs:=by rw[List.drop_zero];exact hx
 rcases Q with⟨ql,⟨rfl,rfl⟩|⟨q,es',rfl,hq,he,hgq⟩⟩
 ·have:cs=[]:=List.eq_nil_of_length_eq_zero (by omega)
  subst this
  rw[Nat.zero_add] at hbd
  rw[Nat.zero_add,List.nil_append]
  refine⟨_,_,vv (c:=k) zaE hg hxd hxl hk hbd,⟨hxl,.inr ⟨h.nx,10,rfl,hlo,.inr rfl,zb h _⟩⟩,by rw[zt];omega,fun c hc=>zm _ _ (by omega),by rw[zl];exact Nat.min_le_right _ _⟩
 ·have hlen:(cs++xs).length=(n+k) * 10:=by rw[lA,ql,hxl];omega
  rcases he with rfl|rfl
  ·refine⟨_,_,zeg (c:=k) zaE hgq ql hg hxd hxl hk hbd,⟨hlen,.inr ⟨h.nx,10,rfl,hlo,.inr rfl,zb h _⟩⟩,by rw[zt];omega,fun c hc=>zm _ _ (by omega),by rw[zl];exact Nat.min_le_right _ _⟩
  ·have nk:(h.kill q).nx=h.nx:=jb _ _
   have g2:((h.kill q).alloc (.row 72 (cs++xs) 10 false)).get h.nx=some (.row 72 (cs++xs) 10 false):=by rw[← nk];exact zb _ _
   refine⟨_,_,qK (c:=k) zaE hgq ql hg hxd hxl hone hk hbd,⟨hlen,.inr ⟨h.nx,10,rfl,hlo,.inr rfl,g2⟩⟩,by rw[zt,nk];omega,fun c hc=>(zm _ _ (by omega)).trans (zU _ (by omega)),?_⟩
   rw[zl,vf];omega
def Tr.kids:Tr→List Tr
 | .node _ l=>l
theorem ArgsC.one{h:Heap}{P:Nat→Prop}:∀ {ts:List Tr} {cs:Vs},ArgsC h P cs ts→cs.all jh=true
 |[],cs,H=>by unfold ArgsC at H;subst H;rfl
 |t::ts,cs,H=>by
  unfold ArgsC at H
  obtain⟨x,r,n,cs',e,_,H⟩:=H
  rw[e,List.all_append,zq5,H.one];rfl
theorem ArgsC.append{h:Heap}{P:Nat→Prop}{us:List Tr}{ds:Vs}(B:ArgsC h P ds us):∀ {ts:List Tr} {cs:Vs},ArgsC h P cs ts→ArgsC h P (cs++ds) (ts++us)
 |[],cs,H=>by unfold ArgsC at H;subst H;exact B
 |t::ts,cs,H=>by
  unfold ArgsC at H
  obtain⟨x,r,n,cs',e,N,H⟩:=H
  show ArgsC h P (cs++ds) (t::(ts++us))
  unfold ArgsC
  exact⟨x,r,n,cs'++ds,by rw[e,List.append_assoc],N,ArgsC.append B H⟩
theorem ArgsC.at{h:Heap}{P:Nat→Prop}:∀ {ts:List Tr} {cs:Vs} {k:Nat} {t:Tr},ArgsC h P cs ts→ts[k]? =some t→∃ x r n cs',cs.drop (k * 10)=ndL x r n++cs'∧zc h P x r n t
 |[],cs,k,t,_,hk=>by simp at hk
 |u::ts,cs,k,t,H,hk=>by
  unfold ArgsC at H
  obtain⟨x,r,n,cs',e,N,H⟩:=H
  cases k with
  |zero=>
   simp only[List.getElem?_cons_zero,sJ] at hk
   subst hk
   exact⟨x,r,n,cs',by rw[Nat.zero_mul];exact e,N⟩
  |succ k=>
   rw[List.getElem?_cons_succ] at hk
   obtain⟨x',r',n',cs2,e2,N2⟩:=ArgsC.at H hk
   refine⟨x',r',n',cs2,?_,N2⟩
   rw[show(k+1) * 10=10+k * 10 by omega,← List.drop_drop,e,show List.drop 10 (ndL x r n++cs')=cs' from rfl]
   exact e2
theorem zb9{h:Heap}{ab es i:Nat}{cs cs':Vs}{ro:Bool}{x:Hd}{r:OA}{n:Nat}(hg:h.get ab=some (.row 72 cs es ro))(hd:cs.drop (i * 10)=ndL x r n++cs'):LD h 70 ab ((0+i * 10)+9) (.slice r n n):=
 zG hg C70 (by
  rw[Nat.zero_add,← List.drop_drop,hd]
  rfl)
theorem zc.src{h:Heap}{P:Nat→Prop}{x:Hd}{r:OA}{n:Nat}{t:Tr}(N:zc h P x r n t):n=t.kids.length∧∃ cs,zu7 h (.slice r n n) n cs∧ArgsC h P cs t.kids∧(n≠0→∃ b es ro,r=some ⟨b,0,none⟩∧h.get b=some (.row 72 cs es ro)):=by
 cases t with
 |node y ts=>
  unfold zc at N
  obtain⟨_,hn,N⟩:=N
  refine⟨hn,?_⟩
  rcases N with⟨rfl,rfl⟩|⟨b,cs,es,ro,rfl,_,hg,hA⟩
  ·subst hn
   exact⟨[],.inl ⟨rfl,rfl,rfl,rfl⟩,by unfold Tr.kids ArgsC;rfl,fun h=>absurd rfl h⟩
  ·refine⟨cs,?_,hA,fun _=>⟨b,es,ro,rfl,hg⟩⟩
   have hl:cs.length=n * 10:=by rw[hA.length,hn]
   by_cases h0:n=0
   ·have:cs=[]:=List.eq_nil_of_length_eq_zero (by omega)
    subst this
    rw[h0]
    refine .inl ⟨rfl,rfl,rfl,?_⟩
    simp[zY,hg]
   ·exact .inr ⟨b,cs,es,ro,rfl,by omega,hg,List.take_of_length_le (by omega),hl,hA.one⟩
abbrev NI(n:Nat):=Loops En (RD n) 50 18446744073709551616 (sub [1,1,1,0,0,0,1,0,0,1,0,0] (zp Tryz.f113))
abbrev NO(n:Nat):=Loops En (RD n) 50 18446744073709551616 (sub [1,1,1,0,0,0] (zp Tryz.f113))
theorem zq3(lo k M n:Nat)(hM:M < 4000)(t:Tr):∀ (rest:List Tr) (i:Nat) (L:List Tr) (cs:Vs) (q:Nat) (h:Heap),t.kids.drop i=rest→L[k]? =some t→QR h lo (some ⟨q,0,none⟩) L.length cs→ArgsC h (fun c=>c < lo) cs L→L.length+rest.length≤M→i+rest.length < 4000→lo≤h.nx→lo≤h.wm→
  ∃ h' q' cs' R,R≤rest.length+1∧NI n [(1,iv (M:Int)),(5,sv q 0 L.length L.length),(6,iv (k:Int)),(7,iv (i:Int))] h (.exit 2) [(1,iv (M:Int)),(5,sv q' 0 (L.length+rest.length) (L.length+rest.length)),(6,iv (k:Int))] h' R∧
   QR h' lo (some ⟨q',0,none⟩) (L.length+rest.length) cs'∧ArgsC h' (fun c=>c < lo) cs' (L++rest)∧lo≤h'.nx∧lo≤h'.wm∧(∀ c,c < lo→h'.get c=h.get c):=by
 intro rest
 induction rest with
 |nil=>
  intro i L cs q h hr hk Q A hL hi hn hw
  have hk':k < L.length:=(List.getElem?_eq_some_iff.1 hk).1
  rw[lN] at hL hi
  obtain⟨x,r,l,cs',hd,N⟩:=A.at hk
  have hlen:=N.src.1
  obtain⟨ql,⟨e,_⟩|⟨q',es,e,hq,he,hg⟩⟩:=Q
  ·cases e
  cases e
  have hkl:t.kids.length≤i:=List.drop_eq_nil_iff.1 hr
  refine⟨h,q,cs,1,nL_ _,.out (zt0 h q L.length k i l M n r hk' (by omega) (by omega) (by omega) (zb9 hg hd) (zE (by omega))),⟨ql,.inr ⟨q,es,rfl,hq,he,hg⟩⟩,by rw[List.append_nil];exact A,hn,hw,fun _ _=>rfl⟩
 |cons u rest ih=>
  intro i L cs q h hr hk Q A hL hi hn hw
  have hk':k < L.length:=(List.getElem?_eq_some_iff.1 hk).1
  rw[lC] at hL hi
  obtain⟨x,r,l,cs',hd,N⟩:=A.at hk
  obtain⟨hlen,csk,_,Ak,hb⟩:=N.src
  have hil:i < t.kids.length:=by
   rcases Nat.lt_or_ge i t.kids.length with h1|h1
   ·exact h1
   ·rw[List.drop_eq_nil_of_le h1] at hr;cases hr
  obtain⟨b,es,ro,rfl,hgb⟩:=hb (by omega)
  have hu:t.kids[i]? =some u:=by
   have:=congrArg List.head? hr
   rw[List.head?_drop] at this
   exact this
  obtain⟨y,yr,yn,cs2,hd2,Nu⟩:=Ak.at hu
  have hg':∃ es',h.get q=some (.row 72 cs es' false):=by
   obtain⟨_,⟨e,_⟩|⟨q',es',e,_,_,hg⟩⟩:=Q
   ·cases e
   cases e
   exact⟨es',hg⟩
  obtain⟨es',hg⟩:=hg'
  have K:∀ c o,h.get c=some o→(al h 72 (ndL y yr yn)).get c=some o:=fun c o e=>gA e
  have QA:QR (al h 72 (ndL y yr yn)) lo (some ⟨q,0,none⟩) L.length cs:=Q.mono fun c o _ e=>K c o e
  obtain⟨r',h1,ap,Q1,n1,g1,w1⟩:=ze3 (x:=sv h.nx 0 1 1) (k:=1) (xs:=ndL y yr yn) QA (.inr ⟨h.nx,_,0,false,rfl,by omega,gN,rfl,rfl,rfl⟩) (by omega) (by show lo≤h.nx+1;omega)
  have hr':∃ q1,r'=some ⟨q1,0,none⟩:=by
   obtain⟨_,⟨_,e⟩|⟨q',_,e,_⟩⟩:=Q1
   ·omega
   ·exact⟨q',e⟩
  obtain⟨q1,rfl⟩:=hr'
  have w1':lo≤h1.wm:=by
   have:(al h 72 (ndL y yr yn)).wm=h.wm:=rfl
   omega
  have n1':lo≤h1.nx:=by
   have:(al h 72 (ndL y yr yn)).nx=h.nx+1:=rfl
   omega
  have gl:∀ c,c < lo→h1.get c=h.get c:=fun c hc=>(g1 c hc).trans (zm _ _ (by omega))
  have A1:ArgsC h1 (fun c=>c < lo) (cs++ndL y yr yn) (L++[u]):=ArgsC.snoc (Nu.mono fun c o hc e=>⟨hc,(gl c hc).trans e⟩) (A.mono fun c o hc e=>⟨hc,(gl c hc).trans e⟩)
  have hb:=zwR h h1 q L.length k i l M q1 b n y yr yn hk' (by omega) (by omega) (by omega) (by omega) (zb9 hg hd) (zw (by omega)) (dT (by omega)) (zb9 hg hd) (zcG hgb hd2) ap
  have lenA:(L++[u]).length=L.length+1:=by rw[lA];rfl
  obtain⟨h',q',cs'',R,hR,LL,Q',A',n',w',g'⟩:=ih (i+1) (L++[u]) _ q1 h1 (by rw[← List.drop_drop,hr];rfl) (by rw[List.getElem?_append_left hk'];exact hk) (by rw[lenA];exact Q1) A1 (by rw[lenA];omega) (by omega) n1' w1'
  rw[lenA] at LL Q'
  rw[show L.length+1+rest.length=L.length+(u::rest).length by rw[lC];omega] at LL Q'
  refine⟨h',q',cs'',R+1,by rw[lC];omega,.on hb LL,Q',by rw[List.append_assoc] at A';exact A',n',w',fun c hc=>(g' c hc).trans (gl c hc)⟩
theorem zq2(lo M n:Nat)(hM:M < 4000):∀ (m:Nat) (k:Nat) (L:List Tr) (cs:Vs) (q:Nat) (h:Heap),zo (L.drop k)=m→k≤L.length→QR h lo (some ⟨q,0,none⟩) L.length cs→ArgsC h (fun c=>c < lo) cs L→k+m≤M→lo≤h.nx→lo≤h.wm→
  ∃ h' R,R≤m+1∧NO n [(1,iv (M:Int)),(5,sv q 0 L.length L.length),(6,iv (k:Int))] h (.exit 0) [(6,iv ((k+m:Nat):Int))] h' R∧lo≤h'.wm:=by
 intro m
 induction m using Nat.strongRecOn with
 |ind m ih=>
  intro k L cs q h hm hk Q A hkm hn hw
  have hls:=zS (L.drop k)
  rw[List.length_drop,hm] at hls
  by_cases hkl:k < L.length
  ·have hu:L[k]? =some L[k]:=List.getElem?_eq_getElem hkl
   obtain⟨t,ht⟩:∃ t,L[k]? =some t:=⟨_,hu⟩
   have hdk:L.drop k=t::L.drop (k+1):=by
    rw[List.drop_eq_getElem_cons hkl]
    rw[ht] at hu
    cases hu
    rfl
   have hts:t.size=1+zo t.kids:=by cases t;rfl
   rw[hdk] at hm
   have hm':t.size+zo (L.drop (k+1))=m:=hm
   have hkids:=zS t.kids
   have hls2:=zS (L.drop (k+1))
   rw[List.length_drop] at hls2
   obtain⟨h1,q1,cs1,R1,hR1,L1,Q1,A1,n1,w1,g1⟩:=zq3 lo k M n hM t t.kids 0 L cs q h (List.drop_zero) ht Q A (by omega) (by omega) hn hw
   have hb:=zwQ h h1 q L.length k M q1 (L.length+t.kids.length) n hkl (by omega) (zw hkl) (dT (by omega)) (L1.fact2 (by omega) (by kernel_rfl))
   have hlen:(L++t.kids).length=L.length+t.kids.length:=lA
   have hs2:zo ((L++t.kids).drop (k+1))=m - 1:=by
    rw[List.drop_append_of_le_length (by omega),qg]
    omega
   obtain⟨h',R,hR,LL,w'⟩:=ih (m - 1) (by omega) (k+1) (L++t.kids) cs1 q1 h1 hs2 (by rw[hlen];omega) (by rw[hlen];exact Q1) A1 (by omega) n1 w1
   rw[hlen,show k+1+(m - 1)=k+m by omega] at LL
   exact⟨h',R+1,by omega,.on hb LL,w'⟩
  ·have:m=0:=by
    rw[← hm,List.drop_eq_nil_of_le (by omega)];rfl
   subst this
   exact⟨h,1,by omega,.out (ztZ h q L.length k M n (by omega) (zE hkl)),hw⟩
theorem zly{h:Heap}{P:Nat→Prop}{x:Hd}{r:OA}{l:Nat}{t:Tr}(N:zc h P x r l t)(hs:t.size≤1000)(n:Nat)(hn:1≤n):RD n 113 [ndV x r l,iv 2000] h=some (iv ((t.size:Nat):Int),h):=by
 obtain⟨n,rfl⟩:=zs_ n
 have K:Kp h.fh (al (al h.fh 72 (ndL x r l)) 72 (ndL x r l)):=((Kp.refl _).al _ _).al _ _
 have hsz:zo [t]=t.size:=by simp[zo]
 obtain⟨hL,R,hR,L,w⟩:=zq2 h.nx 2000 n (by omega) t.size 0 [t] (ndL x r l) (h.nx+1) (al (al h.fh 72 (ndL x r l)) 72 (ndL x r l)) (by rw[List.drop_zero];exact hsz) (by omega)
  ⟨rfl,.inr ⟨h.nx+1,0,rfl,by omega,.inl rfl,gN (h:=al h.fh 72 (ndL x r l))⟩⟩ (by
   unfold ArgsC
   refine⟨x,r,l,[],by rw[List.append_nil],zc.mono (h:=h) (fun c o _ e=>⟨za e,(K.get c (za (h:=h) e)).trans e⟩) N,?_⟩
   unfold ArgsC;rfl) (by omega) (by show h.nx≤h.nx+2;omega) (by show h.nx≤h.nx;omega)
 rw[Nat.zero_add] at L
 refine(zq0 h hL 2000 t.size n x r l (L.fact2 (by omega) (by kernel_rfl))).trans ?_
 rw[zk w rfl]
/-! Depth. -/
def jD:List Tr→List Tr
 |[]=>[]
 |t::l=>t.kids++jD l
theorem zfn(a b:List Tr):zx (a++b)=max (zx a) (zx b):=by
 induction a with
 |nil=>show zx b=max (zx []) _;simp[zx]
 |cons t a ih=>show zx (t::(a++b))=_;simp only[zx,ih];omega
theorem zaY:∀ (l:List Tr),l≠[]→zx l=zx (jD l)+1
 |[],h=>absurd rfl h
 | .node x k::l,_=>by
  show max (Tr.node x k).depth (zx l)=zx (k++jD l)+1
  rw[zfn]
  have e:(Tr.node x k).depth=zx k+1:=rfl
  cases l with
  |nil=>rw[e];simp[zx,jD]
  |cons u l=>rw[e,zaY (u::l) (by simp)];omega
theorem zdN:∀ (l:List Tr),zo l=l.length+zo (jD l)
 |[]=>rfl
 | .node x k::l=>by
  show(Tr.node x k).size+zo l=(l.length+1)+zo (k++jD l)
  rw[qg,zdN l]
  have e:(Tr.node x k).size=1+zo k:=rfl
  omega
abbrev DI(n:Nat):=Loops En (RD n) 39 18446744073709551616 (sub [1,1,1,1,0,1,0,0,1,0,0,1,0,1,0,0] (zp Tryz.f80))
abbrev DO(n:Nat):=Loops En (RD n) 39 18446744073709551616 (sub [1,1,1,1,0,1,0,0] (zp Tryz.f80))
theorem zrE(lo lo2 n d i:Nat)(L:List Tr)(cs:Vs)(q es:Nat)(hlo:lo≤lo2)(hq:q < lo2)(hL:L.length < 4000):∀ (rest:List Tr) (k:Nat) (M:List Tr) (ms:Vs) (r:OA) (h:Heap),L.drop k=rest→QR h lo2 r M.length ms→h.get q=some (.row 72 cs es false)→ArgsC h (fun c=>c < lo) cs L→ArgsC h (fun c=>c < lo) ms M→M.length+(jD rest).length≤4000→lo2≤h.nx→lo≤h.wm→k≤L.length→
  ∃ h' r' ms' R,R≤rest.length+1∧DI n [(3,sv q 0 L.length L.length),(4,iv (d:Int)),(5,iv (i:Int)),(6,.slice r M.length M.length),(7,iv (k:Int))] h (.exit 2) [(4,iv (d:Int)),(5,iv (i:Int)),(6,.slice r' (M.length+(jD rest).length) (M.length+(jD rest).length))] h' R∧
   QR h' lo2 r' (M.length+(jD rest).length) ms'∧ArgsC h' (fun c=>c < lo) ms' (M++jD rest)∧lo2≤h'.nx∧lo≤h'.wm:=by
 intro rest
 induction rest with
 |nil=>
  intro k M ms r h hr Q hg A B hl hn hw hk
  have:L.length≤k:=List.drop_eq_nil_iff.1 hr
  refine⟨h,r,ms,1,by simp,.out (zuw h q L.length M.length k d i n r (by omega) (zE (by omega))),Q,by show ArgsC h _ ms (M++[]);rw[List.append_nil];exact B,hn,hw⟩
 |cons u rest ih=>
  intro k M ms r h hr Q hg A B hl hn hw hk
  have hkl:k < L.length:=by
   rcases Nat.lt_or_ge k L.length with h1|h1
   ·exact h1
   ·rw[List.drop_eq_nil_of_le h1] at hr;cases hr
  have hu:L[k]? =some u:=by
   have:=congrArg List.head? hr
   rw[List.head?_drop] at this
   exact this
  obtain⟨x,rk,l,cs',hd,N⟩:=A.at hu
  obtain⟨hlen,csk,S,Ak,_⟩:=N.src
  have hkl2:(jD (u::rest)).length=u.kids.length+(jD rest).length:=lA
  rw[hkl2] at hl
  obtain⟨r2,h1,ap,Q1,n1,g1,w1⟩:=ze3 Q S (by omega) hn
  have hb:=zxA h h1 q L.length M.length (M.length+l) k l d i n r r2 rk hkl (by omega) (zw hkl) (zb9 hg hd) ap
  have lenM:(M++u.kids).length=M.length+l:=by rw[lA,hlen]
  have tr:∀ c o,c < lo→h.get c=some o→c < lo∧h1.get c=some o:=fun c o hc e=>⟨hc,(g1 c (by omega)).trans e⟩
  obtain⟨h',r',ms',R,hR,LL,Q',A',n',w'⟩:=ih (k+1) (M++u.kids) (ms++csk) r2 h1 (by rw[← List.drop_drop,hr];rfl) (by rw[lenM];exact Q1) ((g1 q hq).trans hg) (A.mono tr) (ArgsC.append (Ak.mono tr) (B.mono tr)) (by rw[lenM];omega) (by omega) (by omega) hkl
  rw[lenM,show M.length+l+(jD rest).length=M.length+(jD (u::rest)).length by rw[hkl2];omega] at LL Q'
  exact⟨h',r',ms',R+1,by rw[lC];omega,.on hb LL,Q',by rw[List.append_assoc] at A';exact A',n',w'⟩
theorem zrD(lo n:Nat):∀ (m:Nat) (d:Nat) (L:List Tr) (cs:Vs) (r:OA) (h:Heap),zx L=m→QR h lo r L.length cs→ArgsC h (fun c=>c < lo) cs L→zo L≤1000→d+m≤1000→lo≤h.nx→lo≤h.wm→
  ∃ h' R,R≤m+1∧DO n [(3,.slice r L.length L.length),(4,iv (d:Int)),(5,iv (d:Int))] h (.exit 0) [(4,iv ((d+m:Nat):Int))] h' R∧lo≤h'.wm:=by
 intro m
 induction m with
 |zero=>
  intro d L cs r h hm Q A hs hd hn hw
  have:L=[]:=by
   cases L with
   |nil=>rfl
   |cons u L=>rw[zaY _ (by simp)] at hm;omega
  subst this
  exact⟨h,1,by omega,.out (zuu h 0 d d n r (by omega) (dT (by omega)) rfl),hw⟩
 |succ m ih=>
  intro d L cs r h hm Q A hs hd hn hw
  have hne:L≠[]:=by
   rintro rfl
   simp[zx] at hm
  have hpos:0 < L.length:=List.length_pos_iff.2 hne
  have hls:=zS L
  have hk:=zaY L hne
  have hsk:=zdN L
  have hlk:=zS (jD L)
  obtain⟨ql,⟨_,e⟩|⟨q,es,rfl,hq,he,hg⟩⟩:=Q
  ·omega
  have hqn:=za hg
  obtain⟨h1,r1,ms,R1,hR1,L1,Q1,A1,n1,w1⟩:=zrE lo h.nx n d d L cs q es hn hqn (by omega) L 0 [] [] none h List.drop_zero ⟨rfl,.inl ⟨rfl,rfl⟩⟩ hg A (by unfold ArgsC;rfl) (by simp only[lN];omega) (nL_ _) hw (Nat.zero_le _)
  simp only[lN,Nat.zero_add,List.nil_append] at L1 Q1 A1
  have hb:=zxx h h1 L.length d d (jD L).length n (some ⟨q,0,none⟩) r1 (by omega) (by omega) (by omega) (dT (by omega)) (wj hpos) (L1.fact2 (by omega) (by kernel_rfl))
  have Q1':QR h1 lo r1 (jD L).length ms:=⟨Q1.1,Q1.2.imp id fun⟨q,es,a,b,c,d⟩=>⟨q,es,a,by omega,c,d⟩⟩
  obtain⟨h',R,hR,LL,w'⟩:=ih (d+1) (jD L) ms r1 h1 (by omega) Q1' A1 (by omega) (by omega) (by omega) w1
  rw[show d+1+m=d+(m+1) by omega] at LL
  exact⟨h',R+1,by omega,.on hb LL,w'⟩
theorem zd9{h:Heap}{P:Nat→Prop}{x:Hd}{r:OA}{l:Nat}{t:Tr}(N:zc h P x r l t)(hs:t.size≤900)(n:Nat)(hn:2≤n):RD n 80 [ndV x r l] h=some (iv ((t.depth:Nat):Int),h):=by
 obtain⟨n,rfl⟩:=zs_ n
 have K0:Kp h.fh (al h.fh 72 (ndL x r l)):=(Kp.refl _).al _ _
 have K:Kp h.fh (al (al h.fh 72 (ndL x r l)) 72 (ndL x r l)):=K0.al _ _
 have e1:=zly (zc.mono (h:=h) (g:=al h.fh 72 (ndL x r l)) (Q:=fun _=>True) (fun c o _ e=>⟨trivial,(K0.get c (za (h:=h) e)).trans e⟩) N) (by omega) n (by omega)
 have hds:=vL t
 have hd1:zx [t]=t.depth:=by simp[zx]
 obtain⟨hL,R,hR,L,w⟩:=zrD h.nx n t.depth 0 [t] (ndL x r l) (some ⟨h.nx+1,0,none⟩) (al (al h.fh 72 (ndL x r l)) 72 (ndL x r l)) hd1
  ⟨rfl,.inr ⟨h.nx+1,0,rfl,by omega,.inl rfl,gN (h:=al h.fh 72 (ndL x r l))⟩⟩ (by
   unfold ArgsC
   refine⟨x,r,l,[],by rw[List.append_nil],zc.mono (h:=h) (fun c o _ e=>⟨za e,(K.get c (za (h:=h) e)).trans e⟩) N,?_⟩
   unfold ArgsC;rfl) (by simp only[zo];omega) (by omega) (by show h.nx≤h.nx+2;omega) (by show h.nx≤h.nx;omega)
 rw[Nat.zero_add] at L
 refine(zrG h hL t.size t.depth n x r l e1 (zR (a:=t.size) (b:=2000) (by omega)) (L.fact2 (by omega) (by kernel_rfl))).trans ?_
 rw[zk w rfl]
noncomputable section
abbrev zfp(r:OA)(T k3:Nat)(s:BA)(d3 c3 w3:Nat):AObj:=.row 160 [.slice r T T,iv (k3:Int),iv (s.data.toList.length:Int),iv (d3:Int),iv (c3:Int),iv (w3:Int)] 0 false
abbrev zaz(r:OA)(T:Nat)(s:BA):Vs:=[.slice r T T,iv 0,iv s.data.toList.length,iv 0,iv 0,iv 0]
variable (h h1 h2:Heap) (s:BA) (r:OA) (T k3 d3 c3 w3 dd n:Nat) (y:Hd) (yr:OA) (yn:Nat)
theorem zle(e c n:Nat)(g1_:h1.get h.nx=some (.row 72 z72 0 false))(l1_:h.nx < h1.nx)(a0:RD n 77 [.string s] (al h.fh 72 z72)=some (.tuple #[.slice none 0 0,iv (e:Int),iv (c:Int)],h1))(a1:((c:Int) !=0)=true):∃ H,Fn n 52 [.string s] h (.tuple #[zj,iv (e:Int),iv (c:Int)]) H∧tl1 h1 h1.wm h.nx h1.nx H:=
 exT (kZ h) [aS 72 z72,yC a0 (kI (ko g1_)),yT a1,.w 0 72 0 (zj),.r 0 72 10,.z 1] []
theorem zzQ(l1_:h.nx < h1.nx)(g2_:h2.get h.nx=some (.row 72 z72 0 false))(l2_:h.nx < h2.nx)(g21_:h2.get h1.nx=some (zfp r T k3 s d3 c3 w3))(l12_:h1.nx < h2.nx)(a0:RD n 77 [.string s] (al h.fh 72 z72)=some (.tuple #[.slice r T T,iv 0,iv 0],h1))(a1:RD n 78 [pv h1.nx 0] (al h1 160 (zaz r T s))=some (ndV y yr yn,h2))(a2:((c3:Int)==0)=false)(a3:((c3:Int) !=0)=true):∃ H,Fn n 52 [.string s] h (.tuple #[zj,iv (w3:Int),iv (c3:Int)]) H∧tl1 h2 h2.wm h.nx (h2.nx+1) H:=
 exT (kZ h) [aS 72 z72,yC a0 (kZ h1),bF,aS 160 (zaz r T s),yC a1 (kJ (ko g21_) (ko g2_)),aS 72 z72,.w 2 72 0 (ndV y yr yn),.l 0 3 4,yF a2,.l 0 3 4,yT a3,.l 0 3 5,.l 0 3 4,.w 1 72 0 (zj),yN (h2.nx+1),.j 5,.q (.l 0 3 5),.j 6,.q (.l 0 3 5),.j 5,.q (.l 0 3 4),.j 6,.q (.l 0 3 4),.r 1 72 10,.z 1] []
theorem zzP(h3:Heap)(s:BA)(r:OA)(T k3 d3 c3 w3 k4 d4 c4 w4 n:Nat)(y:Hd)(yr:OA)(yn:Nat)(l1_:h.nx < h1.nx)(g2_:h2.get h.nx=some (.row 72 z72 0 false))(l2_:h.nx < h2.nx)(g21_:h2.get h1.nx=some (zfp r T k3 s d3 c3 w3))(l12_:h1.nx < h2.nx)(g3_:h3.get h.nx=some (.row 72 z72 0 false))(l3_:h.nx < h3.nx)(g31_:h3.get h1.nx=some (.row 160 [.slice r T T,iv (k4:Int),iv (s.data.toList.length:Int),iv (d4:Int),iv (c4:Int),iv (w4:Int)] 0 false))(a0:RD n 77 [.string s] (al h.fh 72 z72)=some (.tuple #[.slice r T T,iv 0,iv 0],h1))(a1:RD n 78 [pv h1.nx 0] (al h1 160 (zaz r T s))=some (ndV y yr yn,h2))(a2:((c3:Int)==0)=true)(a3:decide ((k3:Int) < T)=true)(a4:RD n 79 [pv h1.nx 0] (pt (al h2 72 z72) h2.nx 72 (ndL y yr yn))=some (.tuple #[],h3))(a5:((c4:Int) !=0)=true):∃ H,Fn n 52 [.string s] h (.tuple #[zj,iv (w4:Int),iv (c4:Int)]) H∧tl1 h3 h3.wm h.nx h3.nx H:=
 exT (kZ h) [aS 72 z72,yC a0 (kZ h1),bF,aS 160 (zaz r T s),yC a1 (kI (ko g21_)),aS 72 z72,.w 1 72 0 (ndV y yr yn),.l 0 3 4,yT a2,.l 0 3 1,yT a3,yC a4 (kJ (ko g31_) (ko g3_)),.l 0 3 4,yT a5,.l 0 3 5,.l 0 3 4,.w 1 72 0 (zj),yN h3.nx,.j 6,.q (.l 0 3 5),.j 7,.q (.l 0 3 5),.j 6,.q (.l 0 3 4),.j 7,.q (.l 0 3 4),.r 1 72 10,.z 1] []
theorem zzR(l1_:h.nx < h1.nx)(g2_:h2.get h.nx=some (.row 72 z72 0 false))(l2_:h.nx < h2.nx)(g21_:h2.get h1.nx=some (zfp r T k3 s d3 c3 w3))(l12_:h1.nx < h2.nx)(a0:RD n 77 [.string s] (al h.fh 72 z72)=some (.tuple #[.slice r T T,iv 0,iv 0],h1))(a1:RD n 78 [pv h1.nx 0] (al h1 160 (zaz r T s))=some (ndV y yr yn,h2))(a2:((c3:Int)==0)=true)(a3:decide ((k3:Int) < T)=false)(a4:((c3:Int) !=0)=false)(a5:Pu n 80 [ndV y yr yn] (iv (dd:Int)) (pt (al h2 72 z72) h2.nx 72 (ndL y yr yn)))(a6:decide ((dd:Int)>16)=true):∃ H,Fn n 52 [.string s] h (.tuple #[zj,iv 0,iv 14]) H∧tl1 h2 h2.wm h.nx (h2.nx+1) H:=
 exT (kZ h) [aS 72 z72,yC a0 (kZ h1),bF,aS 160 (zaz r T s),yC a1 (kJ (ko g21_) (ko g2_)),aS 72 z72,.w 2 72 0 (ndV y yr yn),.l 0 3 4,yT a2,.l 0 3 1,yF a3,.l 0 3 4,yF a4,.g 2 72 0 10,yP a5,yT a6,.w 1 72 0 (zj),.r 1 72 10,.z 1] []
theorem zwg(l1_:h.nx < h1.nx)(g2_:h2.get h.nx=some (.row 72 z72 0 false))(l2_:h.nx < h2.nx)(g21_:h2.get h1.nx=some (zfp r T k3 s d3 c3 w3))(l12_:h1.nx < h2.nx)(a0:RD n 77 [.string s] (al h.fh 72 z72)=some (.tuple #[.slice r T T,iv 0,iv 0],h1))(a1:RD n 78 [pv h1.nx 0] (al h1 160 (zaz r T s))=some (ndV y yr yn,h2))(a2:((c3:Int)==0)=true)(a3:decide ((k3:Int) < T)=false)(a4:((c3:Int) !=0)=false)(a5:Pu n 80 [ndV y yr yn] (iv (dd:Int)) (pt (al h2 72 z72) h2.nx 72 (ndL y yr yn)))(a6:decide ((dd:Int)>16)=false):∃ H,Fn n 52 [.string s] h (.tuple #[ndV y yr yn,iv 0,iv 0]) H∧tl1 h2 h2.wm h.nx (h2.nx+1) H:=
 exT (kZ h) [aS 72 z72,yC a0 (kZ h1),bF,aS 160 (zaz r T s),yC a1 (kJ (ko g21_) (ko g2_)),aS 72 z72,.w 2 72 0 (ndV y yr yn),.l 0 3 4,yT a2,.l 0 3 1,yF a3,.l 0 3 4,yF a4,.g 2 72 0 10,yP a5,yF a6,.g 2 72 0 10,.w 1 72 0 (ndV y yr yn),.r 1 72 10,.z 1] []
end
theorem zap{h:Heap}{pos c:Nat}{X:Option (Value×Heap)}{H:Heap}(e:X=some (zy h (.tuple #[zj,iv (pos:Int),iv (c:Int)]) H))(K:Kp h.fh H):
  ∃ v h',X=some (v,h')∧zpi h (.err pos c) v h':=
 ⟨_,_,fin e,K.fin,rfl⟩
theorem zjz{m:Int}{A:Bsy→Option (Nat×Nat)}{N0:Nat}(hA:zkp m A N0)(s:BA)(h:Heap)(n:Nat)(hn:N0+450≤n)(G:Gl m h):
  ∃ v h',RD n 52 [.string s] h=some (v,h')∧zpi h (jo A s.data.toList) v h':=by
 obtain⟨n,rfl⟩:=zs_ n
 have K0:Kp h.fh (al h.fh 72 z72):=(Kp.refl _).al 72 z72
 have g0:(al h.fh 72 z72).get h.nx=some (.row 72 z72 0 false):=gN (h:=h.fh)
 have n0:(al h.fh 72 z72).nx=h.nx+1:=rfl
 have hG:=G.nx
 obtain⟨v1,h1,e1,U1,C1⟩:=zoQ s (al h.fh 72 z72) n (by omega) (G.fh.alloc _)
 have l1:h.nx+1≤h1.nx:=U1.nx
 have u1:∀ c,c < h.nx+1→h1.get c=(al h.fh 72 z72).get c:=U1.get
 have g1:=(u1 h.nx (by omega)).trans g0
 have old:∀ c,c < h.nx→h1.get c=h.get c:=fun c hc=>(u1 c (by omega)).trans (K0.get c hc)
 have G1:Gl m h1:=⟨by omega,fun c hc=>(old c (by omega)).trans (G.get c hc)⟩
 have kp:∀ {hk H:Heap},h1.nx≤hk.nx→(∀ c,c < h1.nx→hk.get c=h1.get c)→(∀ c,c < hk.nx→c≠h.nx→H.get c=hk.get c)→hk.nx≤H.nx→H.wm≤h.nx→Kp h.fh H:=fun hn hk hg hH hw=>
  ⟨by show h.nx≤_;omega,fun c hc=>by
   have hc':c < h.nx:=hc
   exact(hg c (by omega) (by omega)).trans ((hk c (by omega)).trans (old c hc')),hw⟩
 unfold jo
 by_cases hl:300 < s.data.toList.length
 ·rw[if_pos hl] at C1 ⊢
  subst C1
  obtain⟨H,e,g,nx,_,wm⟩:=zle h h1 s 0 2 n g1 (by omega) e1 rfl
  exact zap e (kp (nL_ _) (fun _ _=>rfl) g (by omega) wm)
 ·rw[if_neg hl] at C1 ⊢
  split at C1
  next e' he=>
   subst C1
   rw[he]
   obtain⟨H,e,g,nx,_,wm⟩:=zle h h1 s e' 12 n g1 (by omega) e1 rfl
   exact zap e (kp (nL_ _) (fun _ _=>rfl) g (by omega) wm)
  next ts he=>
   obtain⟨b,T1,rfl⟩:=C1
   rw[he]
   simp only
   have hT:ts.length≤300:=by have:=zdm _ _ _ _ _ he;simp only[lN] at this;omega
   have hlen:∀ x∈ts,x.t.length≤4000:=fun x hx=>by have:=zpU 300 _ _ _ _ _ he (by omega) (by simp) x hx;omega
   have KP:Kp h1 (al h1 160 [tsV b ts,iv 0,iv (s.data.toList.length:Int),iv 0,iv 0,iv 0]):=(Kp.refl h1).al _ _
   have s1:QSt m (al h1 160 [tsV b ts,iv 0,iv (s.data.toList.length:Int),iv 0,iv 0,iv 0]) h1.nx b ts s.data.toList.length 0 0 0 0:=
    ⟨G1.alloc _,by omega,gN,T1.imp id fun t=>gA t.2,by omega,hT⟩
   obtain⟨v2,h2,e2,F2,w2,wp2,x,r,l,rfl,R2⟩:=(zqy (p:=h1.nx) (b:=b) (E:=s.data.toList.length) hA hlen 40 (nL_ _)).1 n _ 0 (by omega) s1
   have l2:h1.nx+1≤h2.nx:=F2.nx
   have o2:∀ c,c < h1.nx→h2.get c=h1.get c:=fun c hc=>(F2.get c (by show c < h1.nx+1;omega) (by omega)).trans (KP.get c hc)
   have g2:=(o2 h.nx (by omega)).trans g1
   have K3:Kp h2 (pt (al h2 72 z72) h2.nx 72 (ndL x r l)):=((Kp.refl h2).al _ _).pt _ _ (nL_ _) (nS _)
   cases hf:(lv ts s.data.toList.length A 41).form 0 with
   |err pos c=>
    rw[hf] at R2
    obtain⟨hc,k',d',hd1,hd2,s2⟩:=R2
    obtain⟨H,e,g,nx,_,wm⟩:=zzQ h h1 h2 s (tsR b ts) ts.length k' d' c pos n x r l (by omega) g2 (by omega) s2.pp (by omega) e1 e2 (neK (k:=0) hc) (congrArg (! ·) (neK (k:=0) hc))
    exact zap e (kp (by omega) o2 g (by omega) wm)
   |ok t k'=>
    rw[hf] at R2
    obtain⟨N2,s2⟩:=R2
    have hsz:=(zgR ts s.data.toList.length A 41).1 _ _ _ hf
    have hpr:=(za6 ts s.data.toList.length A 41).1 _ _ _ hf
    simp only
    by_cases hk:k' < ts.length
    ·rw[if_pos hk]
     obtain⟨h3,e3,I3⟩:=qi (s2.kp K3) n (by omega)
     rw[if_pos rfl] at I3
     obtain⟨T3,w3⟩:=I3
     have n3:h3.nx=h2.nx+1:=T3.nx
     have f3:∀ c,c < h2.nx→c≠h1.nx→h3.get c=h2.get c:=fun c hc hn=>(T3.fr.get c (by show c < h2.nx+1;omega) hn).trans (K3.get c hc)
     obtain⟨H,e,g,nx,_,wm⟩:=zzP h h1 h2 h3 s (tsR b ts) ts.length k' 0 0 0 k' 0 13 (place ts s.data.toList.length k') n x r l (by omega) g2 (by omega) s2.pp (by omega) ((f3 h.nx (by omega) (by omega)).trans g2) (by omega) T3.st.pp e1 e2 rfl (zw hk) e3 rfl
     exact zap e (kp (by omega) (fun c hc=>(f3 c (by omega) (by omega)).trans (o2 c hc)) g (by omega) wm)
    ·rw[if_neg hk]
     have NP:zc (pt (al h2 72 z72) h2.nx 72 (ndL x r l)) (fun _=>True) x r l t:=zc.mono (h:=h2) (fun c o _ e=>⟨trivial,(K3.get c (za (h:=h2) e)).trans e⟩) N2
     have ed:=zd9 NP (by omega) n (by omega)
     by_cases hd:16 < t.depth
     ·rw[if_pos hd]
      obtain⟨H,e,g,nx,_,wm⟩:=zzR h h1 h2 s (tsR b ts) ts.length k' 0 0 0 t.depth n x r l (by omega) g2 (by omega) s2.pp (by omega) e1 e2 rfl (zE hk) rfl ed (wj hd)
      exact zap e (kp (by omega) o2 g (by omega) wm)
     ·rw[if_neg hd]
      obtain⟨H,e,g,nx,_,wm⟩:=zwg h h1 h2 s (tsR b ts) ts.length k' 0 0 0 t.depth n x r l (by omega) g2 (by omega) s2.pp (by omega) e1 e2 rfl (zE hk) rfl ed (zR hd)
      have NH:zV H h.nx H.nx x r l t:=zc.mono (fun c o hc e=>⟨⟨by have:h1.nx+1≤c:=hc.1;omega,by have:=hc.2;omega⟩,(g c (za e) (by have:h1.nx+1≤c:=hc.1;omega)).trans e⟩) N2
      obtain⟨h',e',K',N'⟩:=zdq [iv 0,iv 0] e (kp (by omega) o2 g (by omega) wm) NH
      exact⟨_,h',e',K',x,r,l,rfl,N'⟩
def we(c:Nat):Bsy:=if c≤26 then[UInt8.ofNat (64+c)] else[65,UInt8.ofNat (64+(c - 26))]
def nmB(r c:Nat):Bsy:=we c++Lib.decDigits r
def wO(a:Nat×Nat)(b:UInt8):Option (Nat×Nat):=
 if 65≤b.toNat∧b.toNat≤90∧a.1=0∧a.2≤26 then some (a.1,a.2 * 26+(b.toNat - 65)+1)
 else if 48≤b.toNat∧b.toNat≤57 then some (a.1 * 10+(b.toNat - 48),a.2) else none
def wP:Bsy→Nat×Nat→Option (Nat×Nat)
 |[],a=>some a
 |b::l,a=>match wO a b with|some a'=>wP l a'|none=>none
theorem zcd(l m:Bsy):∀ a,wP (l++m) a=match wP l a with|some a'=>wP m a'|none=>none:=by
 induction l with
 |nil=>intro a;rfl
 |cons b l ih=>
  intro a
  show(match wO a b with|some a'=>wP (l++m) a'|none=>none)=match(match wO a b with|some a'=>wP l a'|none=>none) with|some a'=>wP m a'|none=>none
  cases wO a b with
  |none=>rfl
  |some a'=>exact ih a'
theorem wU{n:Nat}(h:n < 256):(UInt8.ofNat n).toNat=n:=by
 rw[UInt8.toNat_ofNat'];exact Nat.mod_eq_of_lt h
theorem zgq{a:Nat×Nat}{d:Nat}(h:d < 10):wO a (UInt8.ofNat (48+d))=some (a.1 * 10+d,a.2):=by
 unfold wO
 rw[wU (by omega),if_neg (by omega),if_pos (by omega)]
 congr 2
 omega
theorem zn9(c:Nat):∀ u,wP (Lib.decDigits u) (0,c)=some (u,c):=by
 intro u
 induction u using Nat.strongRecOn with
 |ind u ih=>
  rw[Lib.decDigits]
  by_cases h:u < 10
  ·rw[dif_pos h]
   show(match wO (0,c) (UInt8.ofNat (48+u)) with|some a'=>wP [] a'|none=>none)=_
   rw[zgq h]
   show some (0 * 10+u,c)=_
   rw[Nat.zero_mul,Nat.zero_add]
  ·rw[dif_neg h,zcd,ih (u / 10) (by omega)]
   show(match wO (u / 10,c) (UInt8.ofNat (48+u % 10)) with|some a'=>wP [] a'|none=>none)=_
   rw[zgq (by omega)]
   show some (u / 10 * 10+u % 10,c)=_
   congr 2
   omega
theorem zoa{c:Nat}(h1:1≤c)(h2:c≤50):wP (we c) (0,0)=some (0,c):=by
 unfold we
 by_cases h:c≤26
 ·rw[if_pos h]
  show(match wO (0,0) (UInt8.ofNat (64+c)) with|some a'=>wP [] a'|none=>none)=_
  have:wO (0,0) (UInt8.ofNat (64+c))=some (0,c):=by
   unfold wO
   rw[wU (by omega),if_pos (by omega)]
   congr 2
   omega
  rw[this];rfl
 ·rw[if_neg h]
  show(match wO (0,1) (UInt8.ofNat (64+(c - 26))) with|some a'=>wP [] a'|none=>none)=_
  have:wO (0,1) (UInt8.ofNat (64+(c - 26)))=some (0,c):=by
   unfold wO
   rw[wU (by omega),if_pos (by omega)]
   congr 2
   omega
  rw[this];rfl
theorem zq7(r:Nat){c:Nat}(h1:1≤c)(h2:c≤50):wP (nmB r c) (0,0)=some (r,c):=by
 unfold nmB
 rw[zcd,zoa h1 h2]
 exact zn9 c r
def inG(r c:Nat):Prop:=1≤r∧r≤1000∧1≤c∧c≤50
instance (r c:Nat):Decidable (inG r c):=by unfold inG;infer_instance
def adr(l:Bsy):Option (Nat×Nat):=
 match wP l (0,0) with
 |some (r,c)=>if inG r c∧nmB r c=l then some (r,c) else none
 |none=>none
theorem uU{l:Bsy}{r c:Nat}:adr l=some (r,c)↔inG r c∧nmB r c=l:=by
 constructor
 ·intro h
  unfold adr at h
  split at h
  next r' c' e=>
   split at h
   next hc=>simp only[sJ,pJ] at h;obtain⟨rfl,rfl⟩:=h;exact hc
   next=>cases h
  next=>cases h
 ·rintro⟨h1,rfl⟩
  unfold adr
  rw[zq7 r h1.2.2.1 h1.2.2.2]
  simp only
  rw[if_pos ⟨h1,trivial⟩]
theorem qC:∀ (k u:Nat),u < 10 ^ (k+1)→(Lib.decDigits u).length≤k+1:=by
 intro k
 induction k with
 |zero=>
  intro u h
  rw[Lib.decDigits,dif_pos (by omega)]
  simp
 |succ k ih=>
  intro u h
  rw[Lib.decDigits]
  by_cases hu:u < 10
  ·rw[dif_pos hu];simp
  ·rw[dif_neg hu,lA]
   have:=ih (u / 10) (by rw[Nat.pow_succ] at h;omega)
   simp only[lC,lN];omega
theorem zit(c:Nat):(we c).length≤2:=by
 unfold we
 split <;>simp
theorem yw{r c:Nat}(h:inG r c):(nmB r c).length≤6:=by
 unfold nmB
 rw[lA]
 have:=zit c
 have:=qC 3 r (by have:=h.2.1;omega)
 omega
theorem zbu(r:Nat):Lib.itoa (r:Int)=Lib.decDigits r:=by
 unfold Lib.itoa
 rw[if_neg (by omega)]
 rfl
theorem zdn{n:Int}(h1: -9223372036854775808≤n)(h2:n≤9223372036854775807):(Lib.itoa n).length≤20:=by
 unfold Lib.itoa
 split
 ·rw[lC]
  have:=qC 18 n.natAbs (by omega)
  omega
 ·have:=qC 18 n.toNat (by omega)
  omega
def zfN(h:Heap)(b:Nat):Option (Value×Heap):=
 match h.get b with
 |some (.siter s pos)=>if pos < s.size then some (.tuple #[.bool true,iv (pos:Int),.int .i32 ((Utf8.decode s pos).1:Int)],h.put b (.siter s (pos+(Utf8.decode s pos).2))) else some (.tuple #[.bool false],h)
 |_=>none
theorem uM{h:Heap}{b:Nat}{s:BA}{pos u w:Nat}(hg:h.get b=some (.siter s pos))(hp:pos < s.size)(hd:Utf8.decode s pos=(u,w)):zfN h b=some (.tuple #[.bool true,iv (pos:Int),.int .i32 (u:Int)],h.put b (.siter s (pos+w))):=by
 unfold zfN
 rw[hg]
 simp only[hp,if_true,hd]
theorem znW{h:Heap}{b:Nat}{s:BA}{pos:Nat}(hg:h.get b=some (.siter s pos))(hp:¬ pos < s.size):zfN h b=some (.tuple #[.bool false],h):=by
 unfold zfN
 rw[hg]
 simp only[hp,if_false]
theorem zmz{x:Int}(h1: -2147483648≤x)(h2:x≤2147483647):IntKind.i32.wrap x=x:=by
 simp[IntKind.wrap,IntKind.bits,IntKind.signed] at *
 omega
theorem zr8{x:Int}(h1: -2147483648≤x)(h2:x≤2147483647):some (Value.int .i32 (IntKind.i32.wrap x))=some (.int .i32 x):=by rw[zmz h1 h2]
abbrev yJ(x:Int)(h1: -2147483648≤x:=by omega)(h2:x≤2147483647:=by omega):Stp:=.x [.v (.int .i32 x)] fun _=>[⟨_,zr8 h1 h2⟩]
end Go.PanE
