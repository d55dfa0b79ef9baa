/-
 Part 44 of the proof of Rows.DumpLinesCardSaid. No conditions.
-/
import Derived.Test.YtihkphfmnnndfaaGreatDoorT43
namespace Go.PanE
open Go.Proofs
def TW(P:Nat→Prop)(f:Nat)(t:Tr):Prop:=∀ (h:Heap) (x:Hd) (r:OA) (n d:Nat),zc h P x r n t→d+t.depth≤20→RD f 100 [ndV x r n,iv (d:Int)] h=some (.string ⟨⟨txt t⟩⟩,h)
theorem ze2{P:Nat→Prop}{f:Nat}(hf:2≤f){t:Tr}(g:GT t)(tw:TW P f t)(hs:t.size≤300)(R d:Nat)(hd:d+t.depth≤20){h:Heap}{x:Hd}{r:OA}{n:Nat}(N:zc h P x r n t):
  RD (f+1) 135 [ndV x r n,iv (R:Int),iv (d:Int)] h=some (.string ⟨⟨vc R t (txt t)⟩⟩,h):=by
 have N0:zc (al h.fh 72 (ndL x r n)) P x r n t:=zc.mono (h:=h) (fun c o hc e=>⟨hc,gA (h:=h.fh) e⟩) N
 have er:=zc9 g N0 f hf
 have et:=tw _ x r n d N0 hd
 have hl:=jU t g
 unfold vc
 by_cases hr:rowT t < R
 ·rw[if_pos hr]
  exact zBX h (rowT t) R d f _ x r n (by rw[bsz];omega) er (dT (by omega)) et
 ·rw[if_neg hr]
  exact zBY h (rowT t) R d f _ x r n er (dF (by omega)) et
theorem zew{P:Nat→Prop}{f:Nat}(s:Bsy)(ab j es B d:Nat)(hdd:d≤20)(cs:Vs)(ro:Bool){h:Heap}(hB:h.get B=some (.row 72 (ndL (zg 6 s) (some ⟨ab,0,none⟩) j) 0 false))(hg:h.get ab=some (.row 72 cs es ro)):∀ (l:List Tr) (i:Nat) (cs' acc:Bsy×Vs),(∀ t∈l,GT t∧TW P f t)→ArgsC h P cs'.2 l→cs.drop (i * 10)=cs'.2→i+l.length=j→j < 4000→d+1+zx l≤20→acc.1.length+410 * zo l≤500000→
  Loops En (RD f) 123 18446744073709551616 (sub [1,1,1,1,0,1,0,0] (zp Tryz.f100)) [(1,iv (d:Int)),(2,pv B 0),(7,.string ⟨⟨acc.1⟩⟩),(8,iv (i:Int))] h (.exit 1) [(7,.string ⟨⟨acc.1++if i=0 then qr (wu l) else qQ (wu l)⟩⟩)] h (l.length+1)
 |[],i,cs',acc,hn,A,hd,hi,hj,hdp,hl=>by
  have e:(if i=0 then qr (wu []) else qQ (wu []))=[]:=by split <;>rfl
  rw[e,List.append_nil]
  exact .out (zkF h B d i j f (some ⟨ab,0,none⟩) s ⟨⟨acc.1⟩⟩ hB (zE (by simp only[lN] at hi;omega)))
 |t::l,i,cs',acc,hn,A,hd,hi,hj,hdp,hl=>by
  obtain⟨x,r,n,cs2,ld,N,A2,hd2⟩:=vR (ts:=[]) hg i cs'.2 (t::l) A hd t l rfl
  rw[lC] at hi
  unfold zo at hl
  unfold zx at hdp
  have gt:=(hn t (List.mem_cons_self ..)).1
  have tw:=(hn t (List.mem_cons_self ..)).2
  have hlen:=jU t gt
  have et:RD f 100 [ndV x r n,iv ((d:Int)+1)] h=some (.string ⟨⟨txt t⟩⟩,h):=tw h x r n (d+1) N (by omega)
  by_cases hi0:i=0
  ·subst hi0
   have b:=zyB h B d 0 ab j f s ⟨⟨acc.1⟩⟩ ⟨⟨txt t⟩⟩ x r n hB (by omega) hj (by rw[bsz];omega) (by rw[bsz];omega) hdd (zw (by omega)) rfl ld et
   have L:=zew s ab j es B d hdd cs ro hB hg l 1 (acc.1,cs2) (acc.1++txt t,[]) (fun u hu=>hn u (List.mem_cons_of_mem _ hu)) A2 hd2 (by omega) hj (by omega) (by rw[lA];omega)
   rw[if_neg (by omega),List.append_assoc] at L
   rw[if_pos rfl,show wu (t::l)=txt t::wu l from rfl]
   exact .on b L
  ·have b:=zyA h B d i ab j f s ⟨⟨acc.1⟩⟩ ⟨⟨txt t⟩⟩ x r n hB (by omega) hj (by rw[bsz];omega) (by rw[bsz];omega) hdd (zw (by omega)) (dT (by omega)) ld et
   have L:=zew s ab j es B d hdd cs ro hB hg l (i+1) (acc.1,cs2) ((acc.1++[44])++txt t,[]) (fun u hu=>hn u (List.mem_cons_of_mem _ hu)) A2 hd2 (by omega) hj (by omega) (by simp only[lA,lC,lN];omega)
   rw[if_neg (by omega)] at L
   rw[if_neg hi0,show wu (t::l)=txt t::wu l from rfl,qy]
   have ea:acc.1++44::(txt t++qQ (wu l))=((acc.1++[44])++txt t)++qQ (wu l):=by simp
   rw[ea]
   exact .on b L
theorem ze8{P:Nat→Prop}:∀ (dd:Nat) (t:Tr),GT t→t.depth≤dd→t.size≤300→∀ f,2 * dd+5≤f→TW P f t
 |0,.node y ts,_,hd,_,_,_=>by unfold Tr.depth at hd;omega
 |dd+1,.node y ts,g,hd,hs,f,hf=>by
  obtain⟨f,rfl⟩:∃ k,f=k+1+1:=⟨f - 2,by omega⟩
  intro h x r n d N hdl
  unfold Tr.depth at hd hdl
  unfold Tr.size at hs
  have N0:zc (al h.fh 72 (ndL x r n)) P x r n (.node y ts):=zc.mono (h:=h) (fun c o hc e=>⟨hc,gA (h:=h.fh) e⟩) N
  have ga:=g.args.1
  have ih:∀ t∈ts,∀ f',2 * dd+5≤f'→TW P f' t:=fun t ht f' hf'=>ze8 dd t (ga t ht) (by have:=ux ht;omega) (by have:=zcV ht;omega) f' hf'
  have hd0:decide ((d:Int)>20)=false:=dF (by omega)
  clear N
  unfold zc at N0
  obtain⟨rfl,rfl,N0⟩:=N0
  cases g with
  |int b hb=>exact zyH h d (f+1) r b _ hd0 (uT (by omega) (by omega) _ (f+1) (by omega))
  |text s hs=>exact zyE h d (f+1) r s _ hd0 (znr s (by omega) _ (f+1) (by omega))
  |bool b hb=>
   match b,hb with
   |0,_=>exact zyL h d (f+1) r hd0
   |1,_=>exact zyK h d (f+1) r hd0
  |cell a c hG=>exact zyF h d (f+1) r a c _ hd0 (za5 hG _ (f+1) (by omega))
  |range a c a' c' hG hG' hr hc=>
   have:=yw hG
   have:=yw hG'
   exact zvz h d (f+1) r a c a' c' ⟨⟨nmB a c⟩⟩ ⟨⟨nmB a' c'⟩⟩ (by rw[bsz];omega) (by rw[bsz];omega) hd0 (za5 hG _ (f+1) (by omega)) (za5 hG' _ (f+1) (by omega))
  |neg t ht=>
   rcases N0 with⟨e,_⟩|⟨b,cs,es,ro,rfl,hb,hgb,hA⟩
   ·cases e
   have hs:1+(t.size+0)≤300:=hs
   have hdl:d+(max t.depth 0+1)≤20:=hdl
   have tl:=jU t ht
   have pl:=vN 5 t (txt t)
   obtain⟨y,yr,yn,cs2,ld,Ny,_,_⟩:=vR (P:=P) (ts:=[]) hgb 0 cs [t] hA rfl t [] rfl
   exact zyG h d (f+1) none b y yr yn _ (by rw[bsz];omega) (by omega) hd0 ld (ze2 (f:=f) (by omega) ht (ih t (List.mem_cons_self ..) f (by omega)) (by omega) 5 (d+1) (by omega) Ny)
  |two s t u hs' ht hu=>
   rcases N0 with⟨e,_⟩|⟨b,cs,es,ro,rfl,hb,hgb,hA⟩
   ·cases e
   have hs:1+(t.size+(u.size+0))≤300:=hs
   have hdl:d+(max t.depth (max u.depth 0)+1)≤20:=hdl
   have hsl:=zh2 s hs'
   have tl:=jU t ht
   have ul:=jU u hu
   have p1:=vN (wX (binR s)).1 t (txt t)
   have p2:=vN (wX (binR s)).2 u (txt u)
   have Nn:∀ (g:Heap),(∀ c o,(al h.fh 72 (ndL (zg 5 s) (some ⟨b,0,none⟩) 2)).get c=some o→g.get c=some o)→zc g P (zg 5 s) (some ⟨b,0,none⟩) 2 (.node (zg 5 s) [t,u]):=fun g hg=>by
    unfold zc
    exact⟨rfl,rfl,.inr ⟨b,cs,es,ro,rfl,hb,hg _ _ hgb,ArgsC.mono (fun c o hc e=>⟨hc,hg c o e⟩) hA⟩⟩
   let g2:=al (al (al h.fh 72 (ndL (zg 5 s) (some ⟨b,0,none⟩) 2)) 3 [iv 0,iv 2,iv 2,iv 3,iv 5]) 3 [iv 0,iv 2,iv 3,iv 4,iv 4]
   have k2:∀ c o,(al h.fh 72 (ndL (zg 5 s) (some ⟨b,0,none⟩) 2)).get c=some o→g2.get c=some o:=fun c o e=>gA (gA e)
   obtain⟨y,yr,yn,cs2,ld,Ny,A2,hd2⟩:=vR (h:=g2) (P:=P) (ts:=[]) (k2 _ _ hgb) 0 cs [t,u] (ArgsC.mono (fun c o hc e=>⟨hc,k2 c o e⟩) hA) rfl t [u] rfl
   obtain⟨z,zr,zn,cs3,ld2,Nz,_,_⟩:=vR (h:=g2) (P:=P) (ts:=[]) (k2 _ _ hgb) 1 cs2 [u] A2 hd2 u [] rfl
   have gT:GT (.node (zg 5 s) [t,u]):=.two s t u hs' ht hu
   have LA:∀ {g:Heap} {q:Nat},g.get q=some (.row 3 [iv 0,iv 2,iv 2,iv 3,iv 5] 0 false)→LD g 3 q (0+binR s * 1) (iv (((wX (binR s)).1:Nat):Int)):=fun hg=>by
    rcases zed s hs' with e|e|e|e <;>(rw[e];exact zG hg C3 rfl)
   have LB:∀ {g:Heap} {q:Nat},g.get q=some (.row 3 [iv 0,iv 2,iv 3,iv 4,iv 4] 0 false)→LD g 3 q (0+binR s * 1) (iv (((wX (binR s)).2:Nat):Int)):=fun hg=>by
    rcases zed s hs' with e|e|e|e <;>(rw[e];exact zG hg C3 rfl)
   exact zyJ h d (f+1) none b (binR s) (wX (binR s)).1 (wX (binR s)).2 s y z yr zr yn zn _ _ (by rw[bsz];omega) (by rw[bsz];omega) (by have:=zed s hs';omega) (by rw[bsz];omega) (by omega) hd0
    (zc9 gT (Nn _ fun c o e=>gA e) (f+1) (by omega)) (LA gN) (zc9 gT (Nn _ k2) (f+1) (by omega)) (LB gN) ld
    (ze2 (f:=f) (by omega) ht (ih t (List.mem_cons_self ..) f (by omega)) (by omega) _ (d+1) (by omega) Ny) ld2
    (ze2 (f:=f) (by omega) hu (ih u (by simp) f (by omega)) (by omega) _ (d+1) (by omega) Nz)
  |call nm a hw ha hh=>
   have hnl:=hw.1
   have hlen:=zbe ts hh
   have hjl:=zch (wu ts)
   have tot:=zS ts
   have g0:(al h.fh 72 (ndL (zg 6 nm) r ts.length)).get h.nx=some (.row 72 (ndL (zg 6 nm) r ts.length) 0 false):=gN (h:=h.fh)
   have LF:Loops En (RD (f+1)) 123 18446744073709551616 (sub [1,1,1,1,0,1,0,0] (zp Tryz.f100)) [(1,iv (d:Int)),(2,pv h.nx 0),(7,.string ⟨⟨nm++[40]⟩⟩),(8,iv ((0:Nat):Int))] (al h.fh 72 (ndL (zg 6 nm) r ts.length)) (.exit 1) [(7,.string ⟨⟨(nm++[40])++qr (wu ts)⟩⟩)] (al h.fh 72 (ndL (zg 6 nm) r ts.length)) (ts.length+1):=by
    rcases N0 with⟨rfl,rfl⟩|⟨b,cs,es,ro,rfl,hb,hgb,hA⟩
    ·rw[show qr (wu [])=[] from rfl,List.append_nil]
     exact .out (zkF _ h.nx d 0 0 (f+1) none nm ⟨⟨nm++[40]⟩⟩ g0 rfl)
    ·exact zew (P:=P) (f:=f+1) nm b ts.length es h.nx d (by omega) cs ro g0 hgb ts 0 ([],cs) (nm++[40],[]) (fun t ht=>⟨hh t ht,ih t ht (f+1) (by omega)⟩) hA rfl (by omega) (by omega) (by omega) (by simp only[lA,lC,lN];omega)
   exact zyI h d (f+1) r ts.length nm _ (by rw[bsz];simp only[lA,lC,lN];omega) (by rw[bsz];omega) hd0 (LF.fact2 (by omega) (by kernel_rfl))
theorem zjv{h:Heap}{P:Nat→Prop}{x:Hd}{r:OA}{n:Nat}{t:Tr}(g:GT t)(hd:t.depth≤16)(hs:t.size≤300)(N:zc h P x r n t)(f:Nat)(hf:80≤f):
  RD f 66 [ndV x r n] h=some (.tuple #[.string ⟨⟨(jT t).1⟩⟩,iv (((jT t).2:Nat):Int)],h):=by
 obtain⟨f,rfl⟩:=zs_ f
 have N0:zc (al h.fh 72 (ndL x r n)) P x r n t:=zc.mono (h:=h) (fun c o hc e=>⟨hc,gA (h:=h.fh) e⟩) N
 have eg:=zou g N0 hs hd f (by omega)
 have et:=ze8 16 t g hd hs f (by omega) _ x r n 0 N0 (by omega)
 unfold jT
 by_cases hl:300 < (txt t).length
 ·rw[if_pos hl]
  exact zyx h f _ x r n eg et (wj (a:=(txt t).length) (b:=300) hl)
 ·rw[if_neg hl]
  exact zyy h f _ x r n eg et (zR (a:=(txt t).length) (b:=300) hl)
theorem zms(h:Heap)(n:Nat)(hn:2≤n)(b:Nat)(hb:b≤1):RD n 26 [.agg #[iv 1,iv (b:Int),.string ⟨#[]⟩]] h=some (.string ⟨⟨if(b:Int)=1 then[84,82,85,69] else[70,65,76,83,69]⟩⟩,h):=by
 obtain⟨n,rfl⟩:=zs_ n
 match b,hb with
 |0,_=>exact zsP h n (vi 1 0 ⟨#[]⟩ _ _ (by omega))
 |1,_=>exact zsO h n (vi 1 1 ⟨#[]⟩ _ _ (by omega))
section
variable {m:Int} {h:Heap}
theorem zsJ(s:Bsy)(hs:s.length≤200)(n:Nat)(hn:1502≤n)(G:Gl m h):∃ h',RD (n+1) 40 [srV 1 3 0 ⟨⟨s⟩⟩ hdZ none 0] h=some (.tuple #[.string ⟨⟨je s⟩⟩,iv 0],h')∧Kp h h':=by
 have K0:Kp h.fh (al h.fh 80 (srL 1 3 0 ⟨⟨s⟩⟩ hdZ none 0)):=(Kp.refl _).al _ _
 obtain⟨v,h1,e1,S,K1⟩:=zhX (m:=m) s (by omega) (al h.fh 80 (srL 1 3 0 ⟨⟨s⟩⟩ hdZ none 0)) n (by omega) (G.fh.alloc _)
 have g1:=(K1.get h.nx (nS _)).trans (gN (h:=h.fh) (t:=80) (cs:=srL 1 3 0 ⟨⟨s⟩⟩ hdZ none 0))
 have K:=K0.trans K1
 have e47:RD n 47 [.agg #[iv 3,iv 0,.string ⟨⟨s⟩⟩]] (al h.fh 80 (srL 1 3 0 ⟨⟨s⟩⟩ hdZ none 0))=some (.bool true,al h.fh 80 (srL 1 3 0 ⟨⟨s⟩⟩ hdZ none 0)):=by
  refine(vi 3 0 ⟨⟨s⟩⟩ _ n (by omega)).trans ?_
  have:wV 3 0 ⟨⟨s⟩⟩= .bool true:=by
   show(bif decide ((s.length:Int)≤200) then Value.bool true else .bool false)=_
   rw[dT (by omega)];rfl
  rw[this]
 have out:∀ {X:Option (Value×Heap)} {u:Bsy} {w:Value},(∃ H,X=some (zy h w H)∧tl0 h1 h1.wm (h1.nx+1) H)→w= .tuple #[.string ⟨⟨u⟩⟩,iv 0]→u=je s→∃ h',X=some (.tuple #[.string ⟨⟨je s⟩⟩,iv 0],h')∧Kp h h':=fun⟨H,e,T⟩ hw hu=>by
  subst hw hu
  exact⟨_,PanE.fin e,(zpV K T (nL_ _) (by omega)).fin⟩
 have no:rdM s≠(.text s,0,0)→39::s=je s:=fun hn=>by unfold je;rw[if_neg hn]
 obtain⟨k,a,b,st,y,r,l',rfl⟩:=S.src
 by_cases hc:(rdM s).2.2=0
 ·have ec:=eqK (k:=0) hc
  cases hM:(rdM s).1 with
  |nil=>
   rw[hM] at S
   have S:_=_:=S
   rw[S] at e1
   exact out (zsq h h1 _ _ _ n 0 0 0 ⟨#[]⟩ hdZ none 0 g1 (by rw[bsz];omega) (qI 2 0 ⟨⟨s⟩⟩) jf ja e47 e1 ec rfl) rfl (no fun h=>by rw[h] at hM;cases hM)
  |form t=>
   rw[hM] at S
   obtain⟨x,r,k,e,_⟩:=S
   rw[e] at e1
   exact out (zsq h h1 _ _ _ n 2 0 0 ⟨#[]⟩ x r k g1 (by rw[bsz];omega) (qI 2 0 ⟨⟨s⟩⟩) jf ja e47 e1 ec rfl) rfl (no fun h=>by rw[h] at hM;cases hM)
  |bool b=>
   rw[hM] at S
   have S:_=_:=S
   rw[S] at e1
   exact out (zmD h h1 _ _ _ n 1 1 b ⟨#[]⟩ hdZ none 0 g1 (by rw[bsz];omega) (qI 2 0 ⟨⟨s⟩⟩) jf ja e47 e1 ec rfl (zes 1 b 3 0 ⟨#[]⟩ ⟨⟨s⟩⟩ _ n (by omega))) rfl (no fun h=>by rw[h] at hM;cases hM)
  |num=>
   rw[hM] at S
   obtain⟨a,_,e⟩:=S
   rw[e] at e1
   exact out (zmD h h1 _ _ _ n 1 2 a ⟨#[]⟩ hdZ none 0 g1 (by rw[bsz];omega) (qI 2 0 ⟨⟨s⟩⟩) jf ja e47 e1 ec rfl (zes 2 a 3 0 ⟨#[]⟩ ⟨⟨s⟩⟩ _ n (by omega))) rfl (no fun h=>by rw[h] at hM;cases hM)
  |text u=>
   rw[hM] at S
   have S:_=_:=S
   rw[S] at e1
   have ev:=zes 3 0 3 0 ⟨⟨u⟩⟩ ⟨⟨s⟩⟩ (pt (al h1 80 (srL 0 0 0 ⟨#[]⟩ hdZ none 0)) h1.nx 80 (srL 1 3 0 ⟨⟨u⟩⟩ hdZ none 0)) n (by omega)
   have eu:zbW 3 0 3 0 ⟨⟨u⟩⟩ ⟨⟨s⟩⟩= .bool (decide (u=s)):=by
    show(bif bqS ⟨⟨u⟩⟩ ⟨⟨s⟩⟩ then Value.bool true else .bool false)=_
    rw[zZ]
    cases decide (u=s) <;>rfl
   rw[eu] at ev
   by_cases hus:u=s
   ·rw[dT hus] at ev
    refine out (zyg h h1 _ _ _ n 1 3 0 ⟨⟨u⟩⟩ hdZ none 0 g1 (qI 2 0 ⟨⟨s⟩⟩) jf ja e47 e1 ec rfl ev) rfl ?_
    unfold je
    rw[if_pos]
    rw[hus] at hM
    refine Prod.ext hM (Prod.ext ?_ hc)
    have:=zta s
    exact this hc
   ·rw[dF hus] at ev
    exact out (zmD h h1 _ _ _ n 1 3 0 ⟨⟨u⟩⟩ hdZ none 0 g1 (by rw[bsz];omega) (qI 2 0 ⟨⟨s⟩⟩) jf ja e47 e1 ec rfl ev) rfl (no fun h=>by rw[h] at hM;cases hM;exact hus rfl)
 ·exact out (zyl h h1 _ _ _ n k a b st y r l' g1 (by rw[bsz];omega) (qI 2 0 ⟨⟨s⟩⟩) jf ja e47 e1 (neK (k:=0) hc)) rfl (no fun h=>hc (by rw[h]))
theorem zp0{lo:Nat}{l:Bsy}{v:Value}{M:SrcM}(S:jR h lo l v M)(g:zkn M)(n:Nat)(hn:1503≤n)(G:Gl m h):∃ h',RD n 40 [v] h=some (.tuple #[.string ⟨⟨(wrM l M).1⟩⟩,iv (((wrM l M).2:Nat):Int)],h')∧Kp h h':=by
 obtain⟨n,rfl⟩:=zs_ n
 have pure:∀ {X:Option (Value×Heap)} {w:Value},X=some (w,h)→∃ h',X=some (w,h')∧Kp h h':=fun e=>⟨h,e,Kp.refl h⟩
 cases M with
 |nil=>
  have S:v=_:=S
  subst S
  exact pure (zyn h n jf ja)
 |bool b=>
  have S:v=_:=S
  subst S
  have hb:b≤1:=g
  have e47:=vi 1 b ⟨#[]⟩ (al h.fh 80 (srL 1 1 b ⟨#[]⟩ hdZ none 0)) n (by omega)
  have:wV 1 b ⟨#[]⟩= .bool true:=by
   match b,hb with
   |0,_=>rfl
   |1,_=>rfl
  rw[this] at e47
  exact pure (zym h n b _ (qI 0 b ⟨#[]⟩) jf ja e47 (zms _ n (by omega) b hb))
 |num=>
  obtain⟨a,ha,rfl⟩:=S
  have e:=(zsN (al h.fh 80 (srL 1 2 a ⟨#[]⟩ hdZ none 0)) (n - 1) a ⟨⟨Lib.itoa a⟩⟩ (vi 2 a ⟨#[]⟩ _ _ (by omega)) (uT ha.1 ha.2.1 _ _ (by omega)))
  rw[ha.2.2,show n - 1+1=n by omega] at e
  exact pure (zyi h n a _ (qI 1 a ⟨#[]⟩) jf ja (vi 2 a ⟨#[]⟩ _ n (by omega)) e)
 |text s=>
  have S:v=_:=S
  subst S
  exact zsJ s g n (by omega) G
 |form t=>
  obtain⟨x,r,k,rfl,N⟩:=S
  obtain⟨gt,gd,gs⟩:=g
  have N0:zc (al h.fh 80 (srL 2 0 0 ⟨#[]⟩ x r k)) (fun b=>lo≤b) x r k t:=zc.mono (h:=h) (fun c o hc e=>⟨hc,gA (h:=h.fh) e⟩) N
  have e66:=zjv gt gd gs N0 n (by omega)
  have hk:((x.k:Int)==0)=false:=by
   cases gt <;>(unfold zc at N;obtain⟨rfl,_⟩:=N;rfl)
  have hfl:(jT t).1.length≤300:=by
   unfold jT
   split
   ·simp
   ·show(txt t).length≤300;omega
  simp only[wrM]
  by_cases hc:(jT t).2=0
  ·rw[if_neg (by omega)]
   rw[hc] at e66
   by_cases hl:299 < (jT t).1.length
   ·rw[if_pos hl]
    exact pure (zyh h n _ x r k jf hk e66 (wj (a:=(jT t).1.length) (b:=299) hl))
   ·rw[if_neg hl]
    exact pure (zyj h n _ x r k (by rw[bsz];omega) jf hk e66 (zR (a:=(jT t).1.length) (b:=299) hl))
  ·rw[if_pos hc]
   exact pure (zyk h n _ x r k _ jf hk e66 (congrArg (! ·) (neK (k:=0) hc)))
theorem zj9(l:Bsy)(hl:l.length≤3900)(n:Nat)(hn:1504≤n)(G:Gl m h):∃ h',RD n 22 [.string ⟨⟨l⟩⟩] h=some (.tuple #[.string ⟨⟨(clM l).1⟩⟩,iv ((clA l:Nat):Int),iv (((clM l).2:Nat):Int)],h')∧Kp h h':=by
 obtain⟨n,rfl⟩:=zs_ n
 obtain⟨v,h1,e1,S,K1⟩:=zhX (m:=m) l hl h.fh n (by omega) G.fh
 have gM:=zdb l
 have hS:=S
 obtain⟨k,a,b,st,y,r,l',rfl⟩:=S.src
 have K2:Kp h1 (pt (al h1 80 (srL 0 0 0 ⟨#[]⟩ hdZ none 0)) h1.nx 80 (srL k a b st y r l')):=((Kp.refl h1).al _ _).pt _ _ (nL_ _) (nS _)
 unfold clM clA
 by_cases hc:(rdM l).2.2=0
 ·rw[if_neg (by omega),if_neg (by omega)]
  have S2:jR (pt (al h1 80 (srL 0 0 0 ⟨#[]⟩ hdZ none 0)) h1.nx 80 (srL k a b st y r l')) h.nx l (srV k a b st y r l') (rdM l).1:=hS.mono (nL_ _) fun c _ hc=>K2.get c hc
  have hnx:h.nx≤h1.nx:=K1.nx
  have hG:=G.nx
  have G2:Gl m (pt (al h1 80 (srL 0 0 0 ⟨#[]⟩ hdZ none 0)) h1.nx 80 (srL k a b st y r l')):=⟨by show 14≤h1.nx+1;omega,fun c hc=>((K2.get c (by omega)).trans (K1.get c (by show c < h.nx;omega))).trans (G.get c hc)⟩
  obtain⟨h2,e2,K3⟩:=zp0 S2 gM n (by omega) G2
  exact⟨_,PanE.fin (zBU h h1 ⟨⟨l⟩⟩ (rdM l).2.1 (rdM l).2.2 n k a b st y r l' h2 _ _ e1 (congrArg (! ·) (eqK (k:=0) hc)) e2),((K1.trans K2).trans K3).fin⟩
 ·rw[if_pos hc,if_pos hc]
  exact⟨_,PanE.fin (zBV h h1 ⟨⟨l⟩⟩ (rdM l).2.1 (rdM l).2.2 n k a b st y r l' e1 (congrArg (! ·) (neK (k:=0) hc))),(K1.trans K2).fin⟩
end
theorem zpz:SlT En 32 9 1 16:=⟨by kernel_rfl,by kernel_rfl,by kernel_rfl,⟨.string ⟨#[]⟩,by kernel_rfl,rfl⟩,by decide⟩
def TxR(h:Heap)(lo:Nat)(r:OA)(cs:Vs):Prop:=(r=none∧cs=[])∨∃ q,r=some ⟨q,0,none⟩∧lo≤q∧h.get q=some (.row 9 cs 1 false)
theorem TxR.mono{h g:Heap}{lo:Nat}{r:OA}{cs:Vs}(Q:TxR h lo r cs)(k:∀ c o,h.get c=some o→g.get c=some o):TxR g lo r cs:=
 Q.imp id fun⟨q,a,b,c⟩=>⟨q,a,b,k _ _ c⟩
theorem kpg{h g:Heap}(K:Kp h g)(c:Nat)(o:AObj)(e:h.get c=some o):g.get c=some o:=(K.get c (za e)).trans e
structure Sm(lo:Nat)(h g:Heap):Prop where
 nx:h.nx≤g.nx
 get:∀ c,c < lo→g.get c=h.get c
 wm:g.wm≤h.wm
theorem Kp.sm{h g:Heap}(K:Kp h g){lo:Nat}(hl:lo≤h.nx):Sm lo h g:=⟨K.nx,fun c hc=>K.get c (nU hc hl),K.wm⟩
theorem Sm.trans{lo:Nat}{h g f:Heap}(a:Sm lo h g)(b:Sm lo g f):Sm lo h f:=⟨nT a.nx b.nx,fun c hc=>(b.get c hc).trans (a.get c hc),nT b.wm a.wm⟩
theorem Gl.sm{m:Int}{lo:Nat}{h g:Heap}(G:Gl m h)(S:Sm lo h g)(hl:14≤lo):Gl m g:=⟨nT G.nx S.nx,fun b hb=>(S.get b (by omega)).trans (G.get b hb)⟩
theorem zf1{h:Heap}{lo:Nat}{r:OA}{cs:Vs}{b:Nat}{s:BA}(Q:TxR h lo r cs)(hg:h.get b=some (.row 9 [.string s] 0 false))(hl:cs.length≤4000)(hlo:lo≤h.nx):
  ∃ r' h',zu En h #[32,32] (.slice r cs.length cs.length) (sv b 0 1 1)=some (.slice r' (cs.length+1) (cs.length+1),h')∧TxR h' lo r' (cs++[.string s])∧Sm lo h h':=by
 rcases Q with⟨rfl,rfl⟩|⟨q,rfl,hq,hgq⟩
 ·refine⟨_,_,vv (n:=1) (c:=1) zpz hg rfl rfl (by omega) (by omega),.inr ⟨h.nx,rfl,hlo,zb h _⟩,⟨by rw[zt];omega,fun c hc=>zm _ _ (by omega),by rw[zl];exact nL_ _⟩⟩
 ·have nk:(h.kill q).nx=h.nx:=jb _ _
  have g2:((h.kill q).alloc (.row 9 (cs++[.string s]) 1 false)).get h.nx=some (.row 9 (cs++[.string s]) 1 false):=by rw[← nk];exact zb _ _
  refine⟨_,_,qK (n:=1) (c:=1) zpz hgq (by omega) hg rfl rfl rfl (by omega) (by omega),.inr ⟨h.nx,rfl,hlo,g2⟩,⟨by rw[zt,nk];omega,fun c hc=>(zm _ _ (by omega)).trans (zU _ (by omega)),?_⟩⟩
  rw[zl,vf];exact Nat.min_le_right _ _
/-! Edits, entries. -/
structure Edt where
 k:Int
 r:Int
 c:Int
 a1:Int
 a2:Int
 a3:Int
 a4:Int
 s:Bsy
abbrev edL(e:Edt):Vs:=[iv e.k,iv e.r,iv e.c,iv e.a1,iv e.a2,iv e.a3,iv e.a4,.string ⟨⟨e.s⟩⟩]
structure Ent where
 r:Int
 c:Int
 k:Int
 v:Int
 s:Bsy
abbrev enL(e:Ent):Vs:=[iv e.r,iv e.c,iv e.k,iv e.v,.string ⟨⟨e.s⟩⟩]
theorem zck{α:Type}{f:α→Vs}{k:Nat}(hf:∀ e,(f e).length=k):∀ (i:Nat) (L:List α),(L.flatMap f).drop (0+i * k)=(L.drop i).flatMap f
 |0,L=>by rw[Nat.zero_mul];rfl
 |i+1,[]=>by simp
 |i+1,e::L=>by
  rw[List.drop_succ_cons,← zck hf i L,List.flatMap_cons,show 0+(i+1) * k=(f e).length+(0+i * k) by rw[hf,Nat.succ_mul];omega,← List.drop_drop,List.drop_left]
def AR{α:Type}(f:α→Vs)(h:Heap)(lo:Nat)(r:OA)(L:List α):Prop:=(r=none∧L=[])∨∃ ib t es ro,r=some ⟨ib,0,none⟩∧ib < lo∧h.get ib=some (.row t (L.flatMap f) es ro)
theorem AR.mono{α:Type}{f:α→Vs}{h g:Heap}{lo:Nat}{r:OA}{L:List α}(A:AR f h lo r L)(k:∀ c,c < lo→g.get c=h.get c):AR f g lo r L:=
 A.imp id fun⟨q,t,es,ro,a,b,c⟩=>⟨q,t,es,ro,a,b,(k _ b).trans c⟩
theorem AR.some{α:Type}{f:α→Vs}{h:Heap}{lo:Nat}{r:OA}{L rest:List α}{e:α}{i:Nat}(A:AR f h lo r L)(hr:L.drop i=e::rest):∃ ib t es ro,r= .some ⟨ib,0,none⟩∧h.get ib= .some (.row t (L.flatMap f) es ro):=by
 rcases A with⟨_,rfl⟩|⟨ib,t,es,ro,a,_,c⟩
 ·simp at hr
 ·exact⟨ib,t,es,ro,a,c⟩
section
variable {h:Heap} {ib i es t:Nat} {L rest:List Edt} {e:Edt} {ro:Bool}
theorem zcN(hr:L.drop i=e::rest):(L.flatMap edL).drop (0+i * 8)=edL e++rest.flatMap edL:=by
 rw[zck (k:=8) (f:=edL) (fun _=>rfl),hr,List.flatMap_cons]
theorem zha(hg:h.get ib=some (.row t (L.flatMap edL) es ro))(hr:L.drop i=e::rest):LD h 45 ib (0+i * 8) (.agg #[iv e.k,iv e.r,iv e.c,iv e.a1,iv e.a2,iv e.a3,iv e.a4,.string ⟨⟨e.s⟩⟩]):=
 uj 8 hg A45 (by rw[zcN hr];rfl) rfl
theorem zBu(hg:h.get ib=some (.row t (L.flatMap edL) es ro))(hr:L.drop i=e::rest):LD h 3 ib (0+i * 8) (iv e.k):=
 zG hg C3 (by rw[zcN hr];rfl)
theorem zut(hg:h.get ib=some (.row t (L.flatMap edL) es ro))(hr:L.drop i=e::rest):LD h 29 ib ((0+i * 8)+1) (.agg #[iv e.r,iv e.c]):=
 uj 2 hg A29 (by rw[← List.drop_drop,zcN hr];rfl) rfl
theorem zoN(hg:h.get ib=some (.row t (L.flatMap edL) es ro))(hr:L.drop i=e::rest):LD h 9 ib ((0+i * 8)+7) (.string ⟨⟨e.s⟩⟩):=
 zG hg C9 (by rw[← List.drop_drop,zcN hr];rfl)
end
section
variable {h:Heap} {ib i es t:Nat} {L rest:List Ent} {e:Ent} {ro:Bool}
theorem zcM(hr:L.drop i=e::rest):(L.flatMap enL).drop (0+i * 5)=enL e++rest.flatMap enL:=by
 rw[zck (k:=5) (f:=enL) (fun _=>rfl),hr,List.flatMap_cons]
theorem zur(hg:h.get ib=some (.row t (L.flatMap enL) es ro))(hr:L.drop i=e::rest):LD h 31 ib (0+i * 5) (.agg #[iv e.r,iv e.c,iv e.k,iv e.v,.string ⟨⟨e.s⟩⟩]):=
 uj 5 hg (by kernel_rfl) (by rw[zcM hr];rfl) rfl
theorem zBs(hg:h.get ib=some (.row t (L.flatMap enL) es ro))(hr:L.drop i=e::rest):LD h 29 ib (0+i * 5) (.agg #[iv e.r,iv e.c]):=
 uj 2 hg A29 (by rw[zcM hr];rfl) rfl
theorem zBr(hg:h.get ib=some (.row t (L.flatMap enL) es ro))(hr:L.drop i=e::rest):LD h 27 ib ((0+i * 5)+2) (.agg #[iv e.k,iv e.v,.string ⟨⟨e.s⟩⟩]):=
 uj 3 hg A27 (by rw[← List.drop_drop,zcM hr];rfl) rfl
theorem zuq(hg:h.get ib=some (.row t (L.flatMap enL) es ro))(hr:L.drop i=e::rest):LD h 9 ib (((0+i * 5)+2)+2) (.string ⟨⟨e.s⟩⟩):=
 zG hg C9 (by rw[Nat.add_assoc,← List.drop_drop,zcM hr];rfl)
end
/-! Names, also of what is no cell. -/
def jL(r c:Int):Bsy:=if wE r c then nmB r.toNat c.toNat else[]
theorem zdo{r c:Int}(g:wE r c=true):∃ a b:Nat,r=a∧c=b∧inG a b:=by
 unfold wE at g
 cases h1:decide (r≥1) <;>rw[h1] at g <;>simp only[cond_true,cond_false] at g
 ·cases g
 cases h2:decide (r≤1000) <;>rw[h2] at g <;>simp only[cond_true,cond_false] at g
 ·cases g
 cases h3:decide (c≥1) <;>rw[h3] at g <;>simp only[cond_true,cond_false] at g
 ·cases g
 have h1:=of_decide_eq_true h1
 have h2:=of_decide_eq_true h2
 have h3:=of_decide_eq_true h3
 have g:=of_decide_eq_true g
 exact⟨r.toNat,c.toNat,by omega,by omega,by omega,by omega,by omega,by omega⟩
theorem zbq(r c:Int):(jL r c).length≤100:=by
 unfold jL
 split
 next g=>
  obtain⟨a,b,rfl,rfl,g1,g2,g3,g4⟩:=zdo g
  rw[Int.toNat_natCast,Int.toNat_natCast]
  unfold nmB
  have h1:=qC 3 a (by omega)
  have h2:(we b).length≤2:=by
   unfold we;split <;>simp
  rw[lA];omega
 ·simp
theorem zpP{m:Int}{h:Heap}(G:Gl m h)(r c:Int)(n:Nat)(hn:2≤n):RD n 24 [.agg #[iv r,iv c]] h=some (.string ⟨⟨jL r c⟩⟩,h):=by
 unfold jL
 by_cases g:wE r c=true
 ·rw[if_pos g]
  obtain⟨a,b,rfl,rfl,g'⟩:=zdo g
  exact zb8 G g' n hn
 ·rw[if_neg g]
  obtain⟨n,rfl⟩:=zs_ n
  exact zAs h n r c ((vQ r c _ n (by omega)).trans (by rw[Bool.eq_false_iff.2 g]))
theorem zpO(h:Heap)(r c:Int)(n:Nat)(hn:4≤n):RD n 23 [.agg #[iv r,iv c]] h=some (.string ⟨⟨jL r c⟩⟩,h):=by
 unfold jL
 by_cases g:wE r c=true
 ·rw[if_pos g]
  obtain⟨a,b,rfl,rfl,g'⟩:=zdo g
  exact za5 g' h n hn
 ·rw[if_neg g]
  obtain⟨n,rfl⟩:=zs_ n
  exact zAg h n r c ((zd6 r c _ n (by omega)).trans (by rw[Bool.eq_false_iff.2 g]))
theorem ziv(l:Bsy)(hl:l.length≤1000):(clM l).1.length≤1000:=by
 have g:=zdb l
 unfold clM
 split
 ·simp
 cases hM:(rdM l).1 with
 |nil=>simp[wrM]
 |bool b=>simp only[wrM];split <;>simp
 |num=>exact hl
 |text s=>
  rw[hM] at g
  have g:s.length≤200:=g
  simp only[wrM,je]
  split
  ·omega
  ·simp only[lC];omega
 |form t=>
  simp only[wrM]
  split
  ·simp
  split
  ·simp
  ·simp only[lC];omega
noncomputable def qe(e:Edt):Nat×Bsy:=
 if e.k=1∧wE e.r e.c=true then
  if(clM e.s).2≠0 then((clM e.s).2,[]) else if(clM e.s).1=[]∨(10:UInt8)∈(clM e.s).1 then(11,[]) else(0,(jL e.r e.c++[32])++(clM e.s).1)
 else(11,[])
noncomputable def uh:List Edt→Vs→Except Nat (Vs)
 |[],acc=>.ok acc
 |e::l,acc=>if(qe e).1≠0 then .error (qe e).1 else uh l (acc++[.string ⟨⟨(qe e).2⟩⟩])
theorem zpS{l:Bsy}:decide ((firstIdx ⟨⟨l⟩⟩ ((10:Int).toNat.toUInt8):Int)≥0)=decide ((10:UInt8)∈l):=by
 unfold firstIdx
 have hi:∀ i,i < l.length→(⟨⟨l⟩⟩:BA)[i]! =l[i]! :=fun i hi=>by
  rw[getElem!_pos (⟨⟨l⟩⟩:BA) i hi,getElem!_pos l i hi];rfl
 have h10:(10:Int).toNat.toUInt8=10:=rfl
 rw[h10]
 by_cases hm:(10:UInt8)∈l
 ·rw[dT hm]
  cases e:(List.range (⟨⟨l⟩⟩:BA).size).find? fun i=>(⟨⟨l⟩⟩:BA)[i]! ==10 with
  |some i=>exact dT (by show(0:Int)≤(i:Int);omega)
  |none=>
   exfalso
   obtain⟨i,h1,h2⟩:=List.getElem_of_mem hm
   have:=List.find?_eq_none.1 e i (List.mem_range.2 h1)
   rw[hi i h1,getElem!_pos l i h1,h2] at this
   simp at this
 ·rw[dF hm]
  cases e:(List.range (⟨⟨l⟩⟩:BA).size).find? fun i=>(⟨⟨l⟩⟩:BA)[i]! ==10 with
  |none=>rfl
  |some i=>
   exfalso
   have h1:=List.find?_some e
   have h2:i < l.length:=List.mem_range.1 (List.mem_of_find?_eq_some e)
   rw[hi i h2,getElem!_pos l i h2] at h1
   exact hm ((beq_iff_eq.1 h1)▸List.getElem_mem h2)
theorem zkd{l:Bsy}:bqS ⟨⟨l⟩⟩ ⟨#[]⟩=decide (l=[]):=zZ l []
theorem ne1{k:Int}(h:k=1):(k !=1)=false:=by subst h;rfl
theorem zt1{k:Int}(h:k≠1):(k !=1)=true:=by simpa using h
section
variable {m:Int} {h:Heap}
theorem zob(e:Edt)(hs:e.s.length≤1000)(n:Nat)(hn:1505≤n)(G:Gl m h):∃ h',RD n 20 [.agg #[iv e.k,iv e.r,iv e.c,iv e.a1,iv e.a2,iv e.a3,iv e.a4,.string ⟨⟨e.s⟩⟩]] h=some (.tuple #[.string ⟨⟨(qe e).2⟩⟩,iv (((qe e).1:Nat):Int)],h')∧Kp h h':=by
 obtain⟨n,rfl⟩:=zs_ n
 unfold qe
 obtain⟨k,r,c,a1,a2,a3,a4,s⟩:=e
 simp only at hs ⊢
 by_cases hk:k=1
 ·subst hk
  cases g:wE r c with
  |false=>
   rw[if_neg (by simp)]
   exact⟨h,zAA h 1 r c a1 a2 a3 a4 _ n rfl ((vQ r c _ n (by omega)).trans (by rw[g])),Kp.refl h⟩
  |true=>
   rw[if_pos ⟨rfl,rfl⟩]
   have K0:Kp h.fh (al h.fh 45 [iv 1,iv r,iv c,iv a1,iv a2,iv a3,iv a4,.string ⟨⟨s⟩⟩]):=(Kp.refl _).al _ _
   have e37:=(vQ r c (al h.fh 45 [iv 1,iv r,iv c,iv a1,iv a2,iv a3,iv a4,.string ⟨⟨s⟩⟩]) n (by omega)).trans (by rw[g])
   obtain⟨h1,e38,K1⟩:=zmd s (by omega) n (by omega) (G.fh.alloc (.row 45 [iv 1,iv r,iv c,iv a1,iv a2,iv a3,iv a4,.string ⟨⟨s⟩⟩] 0 false))
   have g1:=(K1.get h.nx (nS _)).trans (gN (h:=h.fh) (t:=45) (cs:=[iv 1,iv r,iv c,iv a1,iv a2,iv a3,iv a4,.string ⟨⟨s⟩⟩]))
   have K:=K0.trans K1
   have hl:=ziv s hs
   by_cases hc:(clM s).2=0
   ·rw[if_neg (by omega)]
    have ec:((((clM s).2:Nat):Int) !=0)=false:=congrArg (! ·) (eqK (k:=0) hc)
    by_cases h0:(clM s).1=[]
    ·rw[if_pos (.inl h0)]
     exact⟨_,PanE.fin (zAC h h1 r c a1 a2 a3 a4 _ _ _ _ n g1 e37 e38 ec (zkd.trans (dT h0))),K.fin⟩
    ·have b0:=zkd.trans (dF h0)
     have e39:=wb ⟨⟨(clM s).1⟩⟩ 10 h1 n (by omega)
     by_cases h10:(10:UInt8)∈(clM s).1
     ·rw[if_pos (.inr h10)]
      exact⟨_,PanE.fin (zAy h h1 r c a1 a2 a3 a4 _ _ _ _ n _ g1 e37 e38 ec b0 e39 (zpS.trans (dT h10))),K.fin⟩
     ·rw[if_neg (fun x=>x.elim h0 h10)]
      have G1:Gl m h1:=(G.fh.sm ((K0.trans K1).sm (nL_ _)) G.nx)
      exact⟨_,PanE.fin (zwY h h1 r c a1 a2 a3 a4 _ ⟨⟨(clM s).1⟩⟩ _ _ n _ ⟨⟨jL r c⟩⟩ g1 (zbq r c) hl e37 e38 ec b0 e39 (zpS.trans (dF h10)) (zpP G1 r c n (by omega))),K.fin⟩
   ·rw[if_pos hc]
    exact⟨_,PanE.fin (zAB h h1 r c a1 a2 a3 a4 _ _ _ _ n g1 e37 e38 (congrArg (! ·) (neK (k:=0) hc))),K.fin⟩
 ·rw[if_neg (fun x=>hk x.1)]
  exact⟨h,zAz h k r c a1 a2 a3 a4 _ n (zt1 hk),Kp.refl h⟩
noncomputable def qd(L:List Edt):Nat×Vs:=match uh L [] with
 | .ok cs=>(0,cs)
 | .error d=>(d,[])
abbrev LnA(n:Nat):=Loops En (RD n) 29 18446744073709551616 (sub [1,1,0,1,0,0] (zp Tryz.f7))
abbrev LnB(n:Nat):=Loops En (RD n) 69 18446744073709551616 (sub [1,1,0,1,0,0] (zp Tryz.f8))
abbrev LnC(n:Nat):=Loops En (RD n) 69 18446744073709551616 (sub [1,1,0,1,0,0,1,0,0,1,1,1,0,1,0,0] (zp Tryz.f8))
def zpj(Lp:List (Nat×Value)→Heap→Ex→List (Nat×Value)→Heap→Nat→Prop)(l:List (Nat×Value))(h:Heap)(lo k:Nat)(w:Except Nat (Vs)):Prop:=
 ∃ H R,R≤k∧Sm lo h H∧match w with
  | .ok cs=>∃ r',Lp l h (.exit 0) [(4,.slice r' cs.length cs.length)] H R∧TxR H lo r' cs
  | .error d=>Lp l h .ret [(2,.slice none 0 0),(3,iv (d:Int))] H R
theorem zh8(L:List Edt)(hL:∀ e∈L,e.s.length≤1000)(hN:L.length≤60)(lo:Nat)(hlo:14≤lo)(xr:OA)(n:Nat)(hn:1505≤n):∀ (rest:List Edt) (i:Nat) (acc:Vs) (h:Heap) (r:OA),L.drop i=rest→i+rest.length=L.length→AR edL h lo xr L→TxR h lo r acc→lo≤h.nx→Gl m h→acc.length+rest.length≤100→
  zpj (LnA n) [(4,.slice r acc.length acc.length),(9,.slice xr L.length L.length),(10,iv L.length),(11,iv (i:Int))] h lo (rest.length+1) (uh rest acc)
 |[],i,acc,h,r,hr,hi,A,T,hx,G,ha=>⟨h,1,nL_ _,(Kp.refl h).sm hx,r,.out (zt5 h _ L.length i acc.length n r (zE (by simp only[lN] at hi;omega))),T⟩
 |e::rest,i,acc,h,r,hr,hi,A,T,hx,G,ha=>by
  obtain⟨ib,t,es,ro,rfl,hg⟩:=A.some hr
  rw[lC] at hi ha
  have em:e∈L:=List.mem_of_mem_drop (hr▸List.mem_cons_self ..)
  have K0:Kp h (pt (al h 45 [iv 0,iv 0,iv 0,iv 0,iv 0,iv 0,iv 0,.string ⟨#[]⟩]) h.nx 45 (edL e)):=((Kp.refl h).al _ _).pt _ _ (nL_ _) (nS _)
  obtain⟨h1,e20,K1⟩:=zob e (hL e em) n hn (G.sm (K0.sm hx) hlo)
  have ld:=zha hg hr
  have K:=K0.trans K1
  unfold uh
  by_cases hc:(qe e).1=0
  ·rw[if_neg (by omega)]
   rw[hc] at e20
   obtain⟨r',h2,ap,T2,S2⟩:=zf1 (b:=h1.nx) (s:=⟨⟨(qe e).2⟩⟩) ((T.mono (kpg K)).mono fun c o e=>gA e) gN (by omega) (by have:=K.nx;show lo≤h1.nx+1;omega)
   have S1:Sm lo h (al h1 9 [.string ⟨⟨(qe e).2⟩⟩]):=(K.al _ _).sm hx
   have S:=S1.trans S2
   obtain⟨H,R,hR,SS,O⟩:=zh8 L hL hN lo hlo (some ⟨ib,0,none⟩) n hn rest (i+1) (acc++[.string ⟨⟨(qe e).2⟩⟩]) h2 r' (by rw[← List.drop_drop,hr];rfl) (by omega) (A.mono S.get) T2 (nT hx S.nx) (G.sm S hlo) (by rw[lA,lC,lN];omega)
   have bd:=zwX h h1 ib L.length i acc.length n r e.k e.r e.c e.a1 e.a2 e.a3 e.a4 ⟨⟨e.s⟩⟩ ⟨⟨(qe e).2⟩⟩ h2 (acc.length+1) r' (by omega) (by omega) (zw (by omega)) ld e20 ap
   refine⟨H,R+1,by rw[lC];omega,S.trans SS,?_⟩
   rw[show(acc++[Value.string ⟨⟨(qe e).2⟩⟩]).length=acc.length+1 by simp] at O
   split at O
   next cs hw=>obtain⟨r2,LL,TT⟩:=O;exact⟨r2,.on bd LL,TT⟩
   next d hw=>exact .on bd O
  ·rw[if_pos hc]
   exact⟨h1,1,by omega,K.sm hx,.ret (zAx h h1 ib L.length i acc.length n r e.k e.r e.c e.a1 e.a2 e.a3 e.a4 ⟨⟨e.s⟩⟩ _ _ (by omega) (by omega) (zw (by omega)) ld e20 (congrArg (! ·) (neK (k:=0) hc)))⟩
theorem zib(h:Heap)(ib N i lo:Nat)(ro:OA)(t:Bsy)(ht:t.length≤1000)(n:Nat):∀ (rest:Bsy) (j:Nat),t.drop j=rest→
  ∃ R,R≤rest.length+1∧if(10:UInt8)∈rest then LnC n [(0,sv ib 0 N N),(4,.slice ro lo lo),(5,iv (i:Int)),(6,.string ⟨⟨t⟩⟩),(9,iv (j:Int))] h .ret [(2,.slice none 0 0),(3,iv 11)] h R
   else LnC n [(0,sv ib 0 N N),(4,.slice ro lo lo),(5,iv (i:Int)),(6,.string ⟨⟨t⟩⟩),(9,iv (j:Int))] h (.exit 2) [(0,sv ib 0 N N),(4,.slice ro lo lo),(5,iv (i:Int)),(6,.string ⟨⟨t⟩⟩)] h R
 |[],j,hj=>by
  refine⟨1,nL_ _,?_⟩
  rw[if_neg (by simp)]
  exact .out (zt8 h ib N i lo j n ro ⟨⟨t⟩⟩ (zE (by have:=List.drop_eq_nil_iff.1 hj;show ¬ j < t.length;omega)))
 |b::rest,j,hj=>by
  have hlt:j < t.length:=by
   rcases Nat.lt_or_ge j t.length with h1|h1
   ·exact h1
   ·rw[List.drop_eq_nil_of_le h1] at hj;cases hj
  have hb:bAt ⟨⟨t⟩⟩ (j:Int)=b.toNat:=wD _ j b rest hj
  have hj':t.drop (j+1)=rest:=by rw[← List.drop_drop,hj];rfl
  by_cases h10:b=10
  ·refine⟨1,by omega,?_⟩
   rw[if_pos (by rw[h10];exact List.mem_cons_self ..)]
   exact .ret (zt7 h ib N i lo j n ro ⟨⟨t⟩⟩ hlt (by show t.length < 4000;omega) (zw hlt) (by rw[hb,h10];rfl))
  ·obtain⟨R,hR,O⟩:=zib h ib N i lo ro t ht n rest (j+1) hj'
   have bd:=zw2 h ib N i lo j n ro ⟨⟨t⟩⟩ hlt (by show t.length < 4000;omega) (zw hlt) (by rw[hb];exact neK (k:=10) fun e=>h10 (UInt8.toNat_inj.1 e))
   refine⟨R+1,by rw[lC];omega,?_⟩
   have hm:(10:UInt8)∈b::rest↔(10:UInt8)∈rest:=by
    rw[List.mem_cons]
    exact⟨fun x=>x.resolve_left fun e=>h10 e.symm,.inr⟩
   by_cases h1:(10:UInt8)∈rest
   ·rw[if_pos h1] at O
    rw[if_pos (hm.2 h1)]
    exact .on bd O
   ·rw[if_neg h1] at O
    rw[if_neg fun x=>h1 (hm.1 x)]
    exact .on bd O
theorem zic(L:List Edt)(hL:∀ e∈L,e.s.length≤1000)(hN:L.length≤60)(lo:Nat)(hlo:14≤lo)(xr:OA)(n:Nat)(hn:1505≤n):∀ (rest:List Edt) (i:Nat) (acc:Vs) (h:Heap) (r:OA),L.drop i=rest→i+rest.length=L.length→AR edL h lo xr L→TxR h lo r acc→lo≤h.nx→Gl m h→acc.length+rest.length≤100→
  zpj (LnB n) [(0,.slice xr L.length L.length),(4,.slice r acc.length acc.length),(5,iv (i:Int))] h lo (rest.length+1) (uh rest acc)
 |[],i,acc,h,r,hr,hi,A,T,hx,G,ha=>⟨h,1,nL_ _,(Kp.refl h).sm hx,r,.out (zt9 h L.length i acc.length n xr r (zE (by simp only[lN] at hi;omega))),T⟩
 |e::rest,i,acc,h,r,hr,hi,A,T,hx,G,ha=>by
  obtain⟨ib,t,es,ro,rfl,hg⟩:=A.some hr
  rw[lC] at hi ha
  have em:e∈L:=List.mem_of_mem_drop (hr▸List.mem_cons_self ..)
  have hs:=hL e em
  have p1:i < L.length:=by omega
  have p2:L.length < 4000:=by omega
  have p3:=zw p1
  have lk:=zBu hg hr
  have la:=zut hg hr
  have ls:=zoN hg hr
  have bad:∀ {h1:Heap} {d:Nat},Sm lo h h1→Bd n 69 [1,1,0,1,0,0] Tryz.f8 [(0,sv ib 0 L.length L.length),(4,.slice r acc.length acc.length),(5,iv (i:Int))] h .ret [(2,.slice none 0 0),(3,iv (d:Int))] h1→d≠0→(qe e).1=d→
    zpj (LnB n) [(0,sv ib 0 L.length L.length),(4,.slice r acc.length acc.length),(5,iv (i:Int))] h lo ((e::rest).length+1) (uh (e::rest) acc):=fun{h1 d} S b hd hw=>by
   unfold uh
   rw[hw,if_pos hd]
   exact⟨h1,1,by omega,S,.ret b⟩
  have S0:=(Kp.refl h).sm hx
  by_cases hk:e.k=1
  ·have hk1:=ne1 hk
   cases g:wE e.r e.c with
   |false=>
    exact bad (d:=11) S0 (zAH h ib L.length i acc.length n r e.k e.r e.c p1 p2 p3 lk hk1 la ((zd6 e.r e.c h n (by omega)).trans (by rw[g]))) (by decide) (by unfold qe;rw[if_neg (by rw[g];simp)])
   |true=>
    have e21:=(zd6 e.r e.c h n (by omega)).trans (by rw[g])
    obtain⟨h1,e22,K⟩:=zj9 e.s (by omega) n (by omega) G
    have hcl:=ziv e.s hs
    have S1:=K.sm hx
    have hw:qe e=if(clM e.s).2≠0 then((clM e.s).2,[]) else if(clM e.s).1=[]∨(10:UInt8)∈(clM e.s).1 then(11,[]) else(0,(jL e.r e.c++[32])++(clM e.s).1):=by
     unfold qe;rw[if_pos ⟨hk,g⟩]
    by_cases hc:(clM e.s).2=0
    ·rw[if_neg (by omega)] at hw
     rw[hc] at e22
     obtain⟨R9,hR9,O⟩:=zib h1 ib L.length i acc.length r (clM e.s).1 hcl n (clM e.s).1 0 rfl
     have hR9:R9≤18446744073709551616:=by omega
     by_cases h10:(10:UInt8)∈(clM e.s).1
     ·rw[if_pos (.inr h10)] at hw
      rw[if_pos h10] at O
      exact bad (d:=11) S1 (zAF h h1 ib L.length i acc.length n r e.k e.r e.c _ _ _ 0 p1 p2 p3 lk hk1 la e21 ls e22 (O.fact2 hR9 (by kernel_rfl))) (by decide) (by rw[hw])
     ·rw[if_neg h10] at O
      have LF:=O.fact' (ov:=zbt [(0,sv ib 0 L.length L.length),(4,.slice r acc.length acc.length),(5,iv (i:Int)),(10,iv (i:Int)),(11,sv ib 0 L.length L.length),(12,iv L.length),(13,.bool true),(16,sv ib 0 L.length L.length),(17,iv (i:Int)),(18,pv ib (0+i * 8)),(19,pv ib (0+i * 8)),(20,iv e.k),(21,.bool false),(22,.bool false),(23,sv ib 0 L.length L.length),(24,iv (i:Int)),(25,pv ib (0+i * 8)),(26,pv ib ((0+i * 8)+1)),(27,.agg #[iv e.r,iv e.c]),(28,.bool true),(29,.bool false),(30,.bool false),(32,sv ib 0 L.length L.length),(33,iv (i:Int)),(34,pv ib (0+i * 8)),(35,pv ib ((0+i * 8)+7)),(36,.string ⟨⟨e.s⟩⟩),(37,.tuple #[.string ⟨⟨(clM e.s).1⟩⟩,iv ((clA e.s:Nat):Int),iv 0]),(31,.tuple #[.string ⟨⟨(clM e.s).1⟩⟩,iv ((clA e.s:Nat):Int),iv 0]),(38,.string ⟨⟨(clM e.s).1⟩⟩),(39,iv ((clA e.s:Nat):Int)),(40,iv 0),(6,.string ⟨⟨(clM e.s).1⟩⟩),(7,iv ((clA e.s:Nat):Int)),(8,iv 0),(41,iv 0),(42,.bool false),(9,iv 0)]) hR9 ⟨by kernel_rfl,by kernel_rfl,by kernel_rfl,by kernel_rfl,by kernel_rfl,trivial⟩
      by_cases h0:(clM e.s).1=[]
      ·rw[if_pos (.inl h0)] at hw
       exact bad (d:=11) S1 (zAJ h h1 ib L.length i acc.length n r e.k e.r e.c _ _ _ 0 p1 p2 p3 lk hk1 la e21 ls e22 LF (zkd.trans (dT h0))) (by decide) (by rw[hw])
      ·rw[if_neg (fun x=>x.elim h0 h10)] at hw
       have hg1:=kpg K _ _ hg
       obtain⟨r',h2,ap,T2,S2⟩:=zf1 (b:=h1.nx) (s:=⟨⟨(jL e.r e.c++[32])++(clM e.s).1⟩⟩) ((T.mono (kpg K)).mono fun c o e=>gA e) gN (by omega) (by have:=K.nx;show lo≤h1.nx+1;omega)
       have S:=((K.al 9 [.string ⟨⟨(jL e.r e.c++[32])++(clM e.s).1⟩⟩]).sm hx).trans S2
       obtain⟨H,R,hR,SS,O⟩:=zic L hL hN lo hlo (some ⟨ib,0,none⟩) n hn rest (i+1) (acc++[.string ⟨⟨(jL e.r e.c++[32])++(clM e.s).1⟩⟩]) h2 r' (by rw[← List.drop_drop,hr];rfl) (by omega) (A.mono S.get) T2 (nT hx S.nx) (G.sm S hlo) (by rw[lA,lC,lN];omega)
       have bd:=zw3 h h1 ib L.length i acc.length n r e.k e.r e.c _ ⟨⟨(clM e.s).1⟩⟩ _ 0 h2 (acc.length+1) r' ⟨⟨jL e.r e.c⟩⟩ p1 p2 (zbq _ _) hcl p3 lk hk1 la e21 ls e22 LF (zkd.trans (dF h0)) (zut hg1 hr) (zpO h1 e.r e.c n (by omega)) ap
       refine⟨H,R+1,by rw[lC];omega,S.trans SS,?_⟩
       unfold uh
       rw[hw,if_neg (by simp)]
       show match uh rest (acc++[.string ⟨⟨(jL e.r e.c++[32])++(clM e.s).1⟩⟩]) with| .ok cs=>_| .error d=>_
       rw[show(acc++[Value.string ⟨⟨(jL e.r e.c++[32])++(clM e.s).1⟩⟩]).length=acc.length+1 by simp] at O
       split at O
       next cs hw=>obtain⟨r2,LL,TT⟩:=O;exact⟨r2,.on bd LL,TT⟩
       next d hw=>exact .on bd O
    ·rw[if_pos hc] at hw
     exact bad S1 (zAI h h1 ib L.length i acc.length n r e.k e.r e.c _ _ _ _ p1 p2 p3 lk hk1 la e21 ls e22 (congrArg (! ·) (neK (k:=0) hc))) hc (by rw[hw])
  ·exact bad (d:=11) S0 (zAG h ib L.length i acc.length n r e.k p1 p2 p3 lk (zt1 hk)) (by decide) (by unfold qe;rw[if_neg (fun x=>hk x.1)])
theorem zcJ{X:Option (Value×Heap)}{H:Heap}{r:OA}{cs:Vs}{d:Nat}(e:X=some (zy h (.tuple #[.slice r cs.length cs.length,iv (d:Int)]) H))(S:Sm h.nx h.fh H)(T:TxR H h.nx r cs):
  ∃ h',X=some (.tuple #[.slice r cs.length cs.length,iv (d:Int)],h')∧Kp h h'∧TxR h' h.nx r cs:=by
 have K:Kp h.fh H:=⟨S.nx,S.get,S.wm⟩
 rcases T with⟨rfl,rfl⟩|⟨q,rfl,hq,hg⟩
 ·exact⟨_,PanE.fin e,K.fin,.inl ⟨rfl,rfl⟩⟩
 ·have hlow:zM h.nx 5 (.tuple #[.slice (some ⟨q,0,none⟩) cs.length cs.length,iv (d:Int)])=false:=by
   simp[zM,jH hq]
  exact⟨_,jY e hlow,⟨K.nx,K.get,Nat.min_le_left _ _⟩,.inr ⟨q,rfl,hq,hg⟩⟩
theorem zlE(L:List Edt)(hL:∀ e∈L,e.s.length≤1000)(hN:L.length≤60)(xr:OA)(A:AR edL h h.nx xr L)(n:Nat)(hn:1506≤n)(G:Gl m h):
  ∃ h' r,RD n 7 [.slice xr L.length L.length] h=some (.tuple #[.slice r (qd L).2.length (qd L).2.length,iv (((qd L).1:Nat):Int)],h')∧Kp h h'∧TxR h' h.nx r (qd L).2:=by
 obtain⟨n,rfl⟩:=zs_ n
 obtain⟨H,R,hR,S,O⟩:=zh8 L hL hN h.nx G.nx xr n (by omega) L 0 [] h.fh none rfl (by omega) A (.inl ⟨rfl,rfl⟩) (nL_ _) G.fh (by simp only[lN];omega)
 unfold qd
 split at O
 next cs hw=>
  obtain⟨r,LL,T⟩:=O
  obtain⟨h',e,K,T⟩:=zcJ (d:=0) (zAv h H xr L.length cs.length n r (LL.fact2 (by omega) (by kernel_rfl))) S T
  exact⟨h',r,e,K,T⟩
 next d hw=>
  obtain⟨h',e,K,T⟩:=zcJ (r:=none) (cs:=[]) (zAw h H xr L.length d n (O.fact2 (by omega) (by kernel_rfl))) S (.inl ⟨rfl,rfl⟩)
  exact⟨h',none,e,K,T⟩
theorem zjP(L:List Edt)(hL:∀ e∈L,e.s.length≤1000)(hN:L.length≤60)(xr:OA)(A:AR edL h h.nx xr L)(n:Nat)(hn:1506≤n)(G:Gl m h):
  ∃ h' r,RD n 8 [.slice xr L.length L.length] h=some (.tuple #[.slice r (qd L).2.length (qd L).2.length,iv (((qd L).1:Nat):Int)],h')∧Kp h h'∧TxR h' h.nx r (qd L).2:=by
 obtain⟨n,rfl⟩:=zs_ n
 obtain⟨H,R,hR,S,O⟩:=zic L hL hN h.nx G.nx xr n (by omega) L 0 [] h.fh none rfl (by omega) A (.inl ⟨rfl,rfl⟩) (nL_ _) G.fh (by simp only[lN];omega)
 unfold qd
 split at O
 next cs hw=>
  obtain⟨r,LL,T⟩:=O
  obtain⟨h',e,K,T⟩:=zcJ (d:=0) (zw4 h H xr L.length cs.length n r (LL.fact2 (by omega) (by kernel_rfl))) S T
  exact⟨h',r,e,K,T⟩
 next d hw=>
  obtain⟨h',e,K,T⟩:=zcJ (r:=none) (cs:=[]) (zw5 h H xr L.length d n (O.fact2 (by omega) (by kernel_rfl))) S (.inl ⟨rfl,rfl⟩)
  exact⟨h',none,e,K,T⟩
end
end Go.PanE
