/-
 Part 19 of the proof of Rows.DumpLinesCardSaid. No conditions.
-/
import Derived.Test.YtihkphfmnnndfaaGreatDoorT18
namespace Go.PanE
open Go.Proofs Go.RowKit Go.Proofs.Cel
theorem zgV{k:Value}(e:keyT 29 k=true):K12 k∧∃ a,qA k=some a:=by
 unfold keyT at e
 rw[bA] at e
 have e2:=e.2
 split at e2
 ·rename_i a b
  simp only[Bool.or_eq_true,bA,decide_eq_true_eq] at e2
  rcases e2 with⟨rfl,rfl⟩|⟨rfl,rfl⟩
  ·exact⟨.inl rfl,_,rfl⟩
  ·exact⟨.inr rfl,_,rfl⟩
 ·simp at e2
theorem znG{args:Vs}{h h':Heap}{v:Value}(e:zjC args h=some (v,h')):Keep h h'∧∀ (μ:Loc) (w:World) (args':Vs),Rep μ h w→zh μ args args'→
  Calls Tryz.prog 18 ⟨args'⟩ w fun e u=>∃ ν v',e= .returned v'∧Go1 μ h w ν h' u∧VRel ν v v':=by
 unfold zjC at e
 split at e
 ·rename_i b
  split at e
  ·rename_i el m hg
   split at e
   ·rename_i k1 v1 k2 v2 hgm
    generalize hc:(keyT 29 k1 && keyT 29 k2 && _)=c at e
    cases c with
    |true=>
     simp only[cond_true] at e
     simp only[sJ,pJ] at e
     obtain⟨rfl,rfl⟩:=e
     refine⟨zan 1 h,fun μ w args' R hl=>?_⟩
     simp only[bA] at hc
     obtain⟨⟨t1,t2⟩,_⟩:=hc
     obtain⟨q1,a1,ka1⟩:=zgV t1
     obtain⟨q2,a2,ka2⟩:=zgV t2
     obtain⟨a',rfl,ra⟩:=hl.one
     cases ra with
     |ptr _ _ p hp=>
      obtain⟨p',hp',ho⟩:=R.live _ _ hg
      rw[hp] at hp'
      simp only[sJ] at hp';subst hp'
      obtain⟨arr,fr,h1,h2',h3,h4,h5,h6,h7⟩:=ho
      have hpo:=h5.2 rfl
      obtain⟨y,hy,ry⟩:=h6.cell (i:=0) rfl
      cases ry with
      |map _ q hq=>
       obtain⟨q',hq',hoq⟩:=R.live _ _ hgm
       rw[hq] at hq'
       simp only[sJ] at hq';subst hq'
       obtain⟨es,clock,g1,g2,g3,g4,g5⟩:=hoq
       have hsz:es.size=2:=g2
       have hes:es= #[es[0],es[1]]:=by
        apply Array.ext
        ·simp[hsz]
        ·intro i hi hi'
         match i,hi with
         |0,_=>rfl
         |1,_=>rfl
         |i+2,hi=>omega
       have e0:es[0]? =some es[0]:=Array.getElem?_eq_getElem (by omega)
       have e1:es[1]? =some es[1]:=Array.getElem?_eq_getElem (by omega)
       have r0:=(g3 0 _ _ e0 rfl).1
       have r1:=(g3 1 _ _ e1 rfl).1
       have k0:=uN r0 ka1
       have k1':=uN r1 ka2
       have hne:es[0].born≠es[1].born:=fun h=>by
        have:=g5 0 1 _ _ e0 e1 h
        omega
       rw[hes] at g1
       have c0:w.cell? ⟨p.pb,0,none⟩=some (.map (some q.pb)):=by
        simp only[World.cell?,h1]
        rw[hpo] at hy
        simpa using hy
       rw[hpo]
       refine(zme R p.pb q.pb clock es[0] es[1] hne (g4 0 _ e0) (g4 1 _ e1) (by rw[k0];exact q1) (by rw[k1'];exact q2) c0 g1).mono ?_
       rintro ev u ⟨g,cap,rfl,hgl,hcap,hB⟩
       have hle:μ.le (μ.upd h.nx ⟨g,0,4,(cap - 2) * 2,2,none⟩):=jF (R.fh _ (nL_ _))
       refine⟨μ.upd h.nx ⟨g,0,4,(cap - 2) * 2,2,none⟩,_,rfl,zeU R hB hgl,?_⟩
       exact .slice h.nx 0 2 2 cap ⟨g,0,4,(cap - 2) * 2,2,none⟩ (zC _ _ _) (.inr ⟨by simp,rfl,hcap,by show 0+cap * 2≤4+(cap - 2) * 2;omega⟩)
    |false=>simp at e
   ·simp at e
  ·simp at e
 ·simp at e
theorem zqI:zej Tryz.prog orcW:=by
 intro f g hg args h v h' e
 unfold orcW at hg
 rcases cond_beq hg with⟨rfl,h1⟩|hg
 ·simp only[sJ] at h1;subst h1;exact znG e
 ·exact zeL f g hg args h v h' e
theorem zuQ(L n:Nat):js Tryz.prog (zB En orcW (drawn En) L n)∧wa (zB En orcW (drawn En) L n):=
 zgt zcQ (zdt zcQ zgN) (zbF En) zqI L n
end Go.PanE
namespace Go.PanE
open Go.Proofs Go.RowKit
structure Gl(m:Int)(h:Heap):Prop where
 nx:14≤h.nx
 get:∀ b,b < 6→h.get b=(h0 m).get b
theorem zh.low{μ ν:Loc}{nx:Nat}(hlow:∀ b,b < nx→ν b=μ b){l l':Vs}(r:zh μ l l')(hl:l.all (zM nx 5)=true):zh ν l l':=
 ⟨r.1,fun i x x' h1 h2=>zh6 (fun b hb=>(hlow b hb).symm) (r.2 i x x' h1 h2) 5 (List.all_eq_true.1 hl x (List.mem_of_getElem? h1))⟩
theorem jK.low{μ ν:Loc}{nx:Nat}(hlow:∀ b,b < nx→ν b=μ b){w:World}{p:Place}{el:TypeId}{cs:Vs}{es:Nat}{ro:Bool}(r:jK μ w p (.row el cs es ro))(hl:cs.all (zM nx 5)=true):jK ν w p (.row el cs es ro):=by
 obtain⟨arr,fr,h1,h2,h3,h4,h5,h6,h7⟩:=r
 exact⟨arr,fr,h1,h2,h3,h4,h5,h6.low hlow hl,h7⟩
def zdY(m:Int):Nat→Vs
 |0=>[.iface 168 (.agg #[.pointer (some ⟨10,84,none⟩)])]
 |1=>[.iface 309 (.pointer (some ⟨11,0,none⟩))]
 |2=>[.int .i64 m]
 |3=>zeI
 |4=>[.iface 309 (.pointer (some ⟨12,0,none⟩))]
 |_=>[.iface 309 (.pointer (some ⟨13,0,none⟩))]
def zj4:Nat→TypeId
 |0=>129
 |2=>3
 |3=>268
 |_=>84
theorem vJ(m:Int)(b:Nat):(h0 m).get b=if b < 6 then some (.row (zj4 b) (zdY m b) 0 true) else none:=by
 rw[wo]
 show(if b < 14 then(h0 m).t.get b else none)=_
 match b with
 |0=>rfl
 |1=>rfl
 |2=>rfl
 |3=>rfl
 |4=>rfl
 |5=>rfl
 |b+6=>
  rw[if_neg (show ¬ b+6 < 6 by omega)]
  split
  ·show(T.put _ 5 _).get (b+6)=none
   rw[T.get_put,if_neg (by omega),T.get_put,if_neg (by omega),T.get_put,if_neg (by omega),T.get_put,if_neg (by omega),T.get_put,if_neg (by omega),T.get_put,if_neg (by omega)]
   rfl
  ·rfl
theorem zlv(m:Int):∀ b,b < 6→(zdY m b).all (zM 14 5)=true:=by
 intro b hb
 match b,hb with
 |0,_=>rfl
 |1,_=>rfl
 |2,_=>rfl
 |3,_=>rfl
 |4,_=>rfl
 |5,_=>rfl
open Classical in
noncomputable def zeM(args:Vs)(h:Heap):Option (Value×Heap):=
 match args with
 |[]=>if ∃ m,Gl m h then some (.bool true,h) else none
 |_=>none
theorem zqN{m:Int}{h:Heap}(G:Gl m h):zeM [] h=some (.bool true,h):=by
 unfold zeM
 simp only
 rw[if_pos ⟨m,G⟩]
theorem zqM{args:Vs}{h h':Heap}{v:Value}(e:zeM args h=some (v,h')):Keep h h'∧∀ (μ:Loc) (w:World) (args':Vs),Rep μ h w→zh μ args args'→
  Calls Tryz.prog 6 ⟨args'⟩ w fun e u=>∃ ν v',e= .returned v'∧Go1 μ h w ν h' u∧VRel ν v v':=by
 unfold zeM at e
 split at e
 ·split at e
  ·rename_i hG
   obtain⟨m,G⟩:=hG
   simp only[sJ,pJ] at e
   obtain⟨rfl,rfl⟩:=e
   refine⟨Keep.refl _,fun μ w args' R hl=>?_⟩
   have ha:args'=[]:=List.length_eq_zero_iff.1 hl.1.symm
   subst ha
   let μ0:Loc:=fun k=>if k < 14 then μ k else none
   have hlow:∀ b,b < 14→μ0 b=μ b:=fun b hb=>if_pos hb
   have hle:μ0.le μ:=fun b p hp=>by
    have hp:(if b < 14 then μ b else none)=some p:=hp
    split at hp
    ·exact hp
    ·simp at hp
   have live0:∀ b o,(h0 m).get b=some o→b < 6∧h.get b=some o:=by
    intro b o hb
    have hb6:b < 6:=by
     rw[vJ] at hb
     split at hb
     ·assumption
     ·simp at hb
    exact⟨hb6,by rw[G.get b hb6];exact hb⟩
   have R0:Rep μ0 (h0 m) w:=by
    refine⟨?_,?_,?_,?_,?_⟩
    ·intro b o hb
     obtain⟨hb6,hb2⟩:=live0 b o hb
     obtain⟨p,hp,ho⟩:=R.live b o hb2
     refine⟨p,by rw[hlow b (by omega)];exact hp,?_⟩
     rw[vJ,if_pos hb6] at hb
     simp only[sJ] at hb;subst hb
     exact ho.low hlow (zlv m b hb6)
    ·intro b b' o o' p p' hb hb' hp hp' hpb hw
     obtain⟨_,hb2⟩:=live0 b o hb
     obtain⟨_,hb2'⟩:=live0 b' o' hb'
     exact R.inj b b' o o' p p' hb2 hb2' (hle _ _ hp) (hle _ _ hp') hpb hw
    ·intro b hb
     have hb:14≤b:=hb
     exact if_neg (by omega)
    ·intro b p hp
     exact R.bound b p (hle _ _ hp)
    ·intro g hg
     have:g < 11:=hg
     obtain⟨p,hp,h1,h2⟩:=R.glob g hg
     exact⟨p,by rw[hlow g (by omega)];exact hp,h1,h2⟩
   have hrun:zB En orcW (drawn En) 18446744073709551616 60 6 [] (h0 m)=some (.bool true,h0 m):=by
    rw[← zfi];exact zky m
   refine((zuQ 18446744073709551616 60).1 6 _ _ _ _ hrun μ0 w [] R0 .nil).mono ?_
   rintro ev u ⟨ν,v',rfl,G1,rv⟩
   cases rv
   have G2:Go1 μ0 (h0 m) w μ0 (h0 m) u:=zbz R0 G1 (fun _ _=>rfl)
   refine⟨μ,_,rfl,⟨μ.le_refl,⟨?_,R.inj,R.fh,fun b p hp=>nU (R.bound b p hp) G2.size,R.glob⟩,G2.size,fun _ hk _=>hk,fun k hk ho=>?_,G2.os,G2.out,G2.tape,nL_ _,fun _ _=>rfl⟩,.bool _⟩
   ·intro b o hb
    obtain⟨p,hp,ho⟩:=R.live b o hb
    refine⟨p,hp,?_⟩
    by_cases hb6:b < 6
    ·have hb0:(h0 m).get b=some o:=by rw[← G.get b hb6];exact hb
     obtain⟨q,hq,hoq⟩:=G2.rep.live b o hb0
     have:=hle _ _ hq
     rw[hp] at this
     simp only[sJ] at this;subst this
     exact hoq.mono hle
    ·refine ho.world ?_
     by_cases ow:Own μ0 (h0 m) p.pb
     ·obtain⟨b',o',p',hb',hp',hpb⟩:=ow
      obtain⟨hb6',hb2'⟩:=live0 b' o' hb'
      obtain⟨q1,hq1,ho1⟩:=G2.rep.live b' o' hb'
      obtain⟨q2,hq2,ho2⟩:=R.live b' o' hb2'
      rw[hp'] at hq1;cases hq1
      rw[hle _ _ hp'] at hq2;cases hq2
      rw[vJ,if_pos hb6'] at hb'
      simp only[sJ] at hb';subst hb'
      have h5:zj4 b'≠5:=by
       match b',hb6' with
       |0,_|1,_|2,_|3,_|4,_|5,_=>decide
      obtain⟨_,_,_,_,_,_,_,_,e1⟩:=ho1
      obtain⟨_,_,_,_,_,_,_,_,e2⟩:=ho2
      rw[← hpb]
      exact(e1.2 rfl h5).trans (e2.2 rfl h5).symm
     ·exact G2.frame _ (R.bound _ _ hp) ow
   ·refine G2.frame k hk ?_
    rintro⟨b',o',p',hb',hp',hpb⟩
    obtain⟨_,hb2'⟩:=live0 b' o' hb'
    exact ho ⟨b',o',p',hb2',hle _ _ hp',hpb⟩
  ·simp at e
 ·simp at e
noncomputable def orcD(f:FuncId):Option (Vs→Heap→Option (Value×Heap)):=bif Nat.beq f 6 then some zeM else orcT f
theorem zqJ:zej Tryz.prog orcD:=by
 intro f g hg args h v h' e
 unfold orcD at hg
 rcases cond_beq hg with⟨rfl,h1⟩|hg
 ·simp only[sJ] at h1;subst h1;exact zqM e
 ·exact zeL f g hg args h v h' e
theorem zuS(L n:Nat):js Tryz.prog (zB En orcD (drawn En) L n)∧wa (zB En orcD (drawn En) L n):=
 zgt zcQ (zdt zcQ zgN) (zbF En) zqJ L n
end Go.PanE
namespace Go.PanE
def zv(s:BA)(a b:Int):BA:=⟨⟨(s.data.toList.drop a.toNat).take (b.toNat - a.toNat)⟩⟩
section
variable {env:Env} {h:Heap} {t:TypeId} {s:BA}
theorem zi6{k k':IntKind}{a b:Int}(hu:env.und t=some .string)(h1:0≤a)(h2:a≤b)(h3:b≤s.data.toList.length):
  qG env h t (.string s) (some (some (.int k a))) (some (some (.int k' b))) none=some (.string (zv s a b)):=by
 unfold qG
 rw[hu]
 have e1:zO (some (some (.int k' b))) s.data.toList.length s.data.toList.length=some b.toNat:=by
  simp only[zO];rw[if_pos ⟨by omega,h3⟩]
 have e2:zO (some (some (.int k a))) b.toNat 0=some a.toNat:=by
  simp only[zO];rw[if_pos ⟨h1,by omega⟩]
 simp only[e1,e2,zv]
theorem zkL{k:IntKind}{a:Int}(hu:env.und t=some .string)(h1:0≤a)(h3:a≤s.data.toList.length):
  qG env h t (.string s) (some (some (.int k a))) none none=some (.string (zv s a s.data.toList.length)):=by
 unfold qG
 rw[hu]
 have e1:zO none s.data.toList.length s.data.toList.length=some s.data.toList.length:=rfl
 have e2:zO (some (some (.int k a))) s.data.toList.length 0=some a.toNat:=by
  simp only[zO];rw[if_pos ⟨h1,h3⟩]
 simp only[e1,e2,zv,Int.toNat_natCast]
theorem zi5{k:IntKind}{b:Int}(hu:env.und t=some .string)(h2:0≤b)(h3:b≤s.data.toList.length):
  qG env h t (.string s) none (some (some (.int k b))) none=some (.string (zv s 0 b)):=by
 unfold qG
 rw[hu]
 have e1:zO (some (some (.int k b))) s.data.toList.length s.data.toList.length=some b.toNat:=by
  simp only[zO];rw[if_pos ⟨h2,h3⟩]
 have e2:zO none b.toNat 0=some 0:=rfl
 simp only[e1,e2,zv,Int.toNat_zero]
end
theorem zp1{x:Int}(h1:0≤x)(h2:x≤255):IntKind.u8.wrap x=x:=by
 simp[IntKind.wrap,IntKind.bits,IntKind.signed] at *
 omega
theorem zeh{x:Int}(h1:0≤x)(h2:x≤255):some (Value.int .u8 (IntKind.u8.wrap x))=some (.int .u8 x):=by rw[zp1 h1 h2]
theorem zqq{x y:Int}(h1:0≤x)(h2:0 < y):wF .rem .i64 x y=some (.int .i64 (x % y)):=by
 unfold wF
 simp only
 rw[if_neg (by omega),Int.tmod_eq_emod_of_nonneg h1]
def zbw(env:Env)(s d:TypeId):Bool:=match env.und s,env.und d with
 |some (.slice e),some .string=>match env.und e with|some (.int .u8)=>true|_=>false
 |_,_=>false
theorem qD{env:Env}{h:Heap}{s d:TypeId}{b o n c:Nat}{el:TypeId}{cs:Vs}{es:Nat}{ro:Bool}{bs:Bsy}(hg:h.get b=some (.row el cs es ro))(ht:zbw env s d=true)
  (hl:((cs.drop o).take n).length=n) (hb:vt ((cs.drop o).take n)=some bs):conv env h s d (.slice (some ⟨b,o,none⟩) n c)=some (.string ⟨⟨bs⟩⟩):=by
 unfold zbw at ht
 split at ht
 ·rename_i e h1 h2
  split at ht
  ·rename_i h3
   unfold conv
   rw[h1,h2]
   have hq:Nat.beq ((cs.drop o).take n).length n=true:=by rw[hl];exact Nat.beq_refl n
   simp only[h3,hg,hq,if_true,hb]
  ·simp at ht
 ·simp at ht
theorem jV{x y:BA}(h:x.size+y.size≤9223372036854775807):jn .add x y=some (.string (x++y)):=by
 unfold jn
 simp only
 rw[if_neg]
 have:IntKind.i64.max=9223372036854775807:=by rfl
 rw[this]
 omega
section
variable (env:Env) (call:wQ) (nt L:Nat)
def wC(c:Code)(l:List (Nat×Value))(h:Heap)(x:Ex)(l':List (Nat×Value))(h':Heap):Prop:=
 ∀ tm,AgL l tm→∃ tm',ecA env call nt (qB env call nt) L c ⟨tm,h⟩=some (x,⟨tm',h'⟩)∧AgL l' tm'
inductive Loops(c:Code):List (Nat×Value)→Heap→Ex→List (Nat×Value)→Heap→Nat→Prop
 |out {l:List (Nat×Value)} {h:Heap} {i:Nat} {l':List (Nat×Value)} {h':Heap} (b:wC env call nt L c l h (.exit i) l' h'):Loops c l h (.exit i) l' h' 1
 |ret {l:List (Nat×Value)} {h:Heap} {l':List (Nat×Value)} {h':Heap} (b:wC env call nt L c l h .ret l' h'):Loops c l h .ret l' h' 1
 |on {l:List (Nat×Value)} {h:Heap} {l1:List (Nat×Value)} {h1:Heap} {x:Ex} {l':List (Nat×Value)} {h':Heap} {n:Nat} (b:wC env call nt L c l h .normal l1 h1) (r:Loops c l1 h1 x l' h' n):Loops c l h x l' h' (n+1)
def zek(c:Code)(ov:T Value)(h:Heap)(x:Ex)(l:List (Nat×Value))(h':Heap):Prop:=
 ∀ tm,zW ov tm→∃ tm',jN (ecA env call nt (qB env call nt) L c) L ⟨tm,h⟩=some (x,⟨tm',h'⟩)∧AgL l tm'
end
section
variable {env:Env} {call:wQ} {nt L:Nat} {c:Code}
theorem zaj{gs:List Guess}{l l':List (Nat×Value)}{h h':Heap}{fs:List Prop}{x:Ex}(e:zbx env call nt L c gs l h l'=some (fs,x,h'))(hf:wG fs):wC env call nt L c l h x l' h':=
 fun _ A=>zrp env call nt L e hf A
theorem Loops.iter{l l':List (Nat×Value)}{h h':Heap}{x:Ex}{n:Nat}(H:Loops env call nt L c l h x l' h' n):∀ m,n≤m→∀ tm,AgL l tm→
  ∃ tm',jN (ecA env call nt (qB env call nt) L c) m ⟨tm,h⟩=some (x,⟨tm',h'⟩)∧AgL l' tm':=by
 induction H with
 |out b=>
  intro m hm tm A
  obtain⟨k,rfl⟩:∃ k,m=k+1:=⟨m - 1,by omega⟩
  obtain⟨tm',h1,A'⟩:=b tm A
  exact⟨tm',zok h1 k,A'⟩
 |ret b=>
  intro m hm tm A
  obtain⟨k,rfl⟩:∃ k,m=k+1:=⟨m - 1,by omega⟩
  obtain⟨tm',h1,A'⟩:=b tm A
  exact⟨tm',zoj h1 k,A'⟩
 |on b r ih=>
  intro m hm tm A
  obtain⟨k,rfl⟩:∃ k,m=k+1:=⟨m - 1,by omega⟩
  obtain⟨tm1,h1,A1⟩:=b tm A
  rw[zri h1 k]
  exact ih k (by omega) tm1 A1
theorem Loops.fact{ov:T Value}{l l':List (Nat×Value)}{h h':Heap}{x:Ex}{n:Nat}{fs:List Prop}(H:Loops env call nt L c l h x l' h' n)(hn:n≤L)(hg:zci ov l=some fs)(hf:wG fs):zek env call nt L c ov h x l' h':=
 fun _ A=>H.iter L hn _ (zfg A l fs hg hf)
end
end Go.PanE
namespace Go.PanE
open Go.Proofs
noncomputable abbrev RD(n:Nat):FuncId→Vs→Heap→Option (Value×Heap):=zB En orcD (drawn En) 18446744073709551616 n
section
variable {h g:Heap} {v:Value}
theorem uq(hl:zM h.nx 5 v=true):zy h v (Heap.fh h)=(v,h):=ye (nL_ _) hl
theorem zk(hw:h.nx≤g.wm)(hl:zM h.nx 5 v=true):zy h v g=(v,h):=ye hw hl
theorem zah(hl:zM h.nx 5 v=false):zy h v g=(v,{g with wm:=min h.wm g.wm}):=by
 unfold zy;rw[hl];simp
theorem uo(hw:g.wm < h.nx):zy h v g=(v,{g with wm:=min h.wm g.wm}):=by
 unfold zy
 have:Nat.ble h.nx g.wm=false:=by
  cases e:Nat.ble h.nx g.wm with
  |false=>rfl
  |true=>rw[Nat.ble_eq] at e;omega
 rw[this];simp
def yL(ov:T Value):List (Nat×Value)→Prop
 |[]=>True
 |p::l=>ov.get p.1=some p.2∧yL ov l
theorem yL.agl{ov tm:T Value}(A:zW ov tm):∀ {l:List (Nat×Value)},yL ov l→AgL l tm:=by
 intro l
 induction l with
 |nil=>intro _;trivial
 |cons p l ih=>intro h;exact⟨A _ _ h.1,ih h.2⟩
theorem zs_(n:Nat)(h:0<n:=by omega):∃ m,n=m+1:=⟨n - 1,by omega⟩
theorem yL.of{ov:T Value}:∀{l:List (Nat×Value)},l.map (fun p=>ov.get p.1)=l.map (fun p=>some p.2)→yL ov l
 |[],_=>trivial
 |p::l,h=>⟨(List.cons.inj h).1,yL.of (List.cons.inj h).2⟩
theorem Loops.fact'{env:Env}{call:wQ}{nt L:Nat}{c:Code}{ov:T Value}{l l':List (Nat×Value)}{h h':Heap}{x:Ex}{n:Nat}(H:Loops env call nt L c l h x l' h' n)(hn:n≤L)(hg:yL ov l):zek env call nt L c ov h x l' h':=
 fun _ A=>H.iter L hn _ (hg.agl A)
theorem Loops.fact2{env:Env}{call:wQ}{nt L:Nat}{c:Code}{ov:T Value}{l l':List (Nat×Value)}{h h':Heap}{x:Ex}{n:Nat}(H:Loops env call nt L c l h x l' h' n)(hn:n≤L)(hg:l.map (fun p=>ov.get p.1)=l.map (fun p=>some p.2)):zek env call nt L c ov h x l' h':=
 fun _ A=>H.iter L hn _ ((yL.of hg).agl A)
structure Fr(h g:Heap)(p:Nat):Prop where
 nx:h.nx≤g.nx
 get:∀ b,b < h.nx→b≠p→g.get b=h.get b
theorem Fr.refl(h:Heap)(p:Nat):Fr h h p:=⟨nL_ _,fun _ _ _=>rfl⟩
theorem Fr.trans{h g f:Heap}{p:Nat}(a:Fr h g p)(b:Fr g f p):Fr h f p:=
 ⟨nT a.nx b.nx,fun k hk hp=>(b.get k (nU hk a.nx) hp).trans (a.get k hk hp)⟩
theorem Fr.wm{h g:Heap}{p:Nat}(a:Fr h g p)(k:Nat):Fr h {g with wm:=k} p:=⟨a.nx,a.get⟩
theorem Fr.of_wm{h g:Heap}{p k:Nat}(a:Fr {h with wm:=k} g p):Fr h g p:=⟨a.nx,a.get⟩
theorem Fr.alloc(h:Heap)(o:AObj)(p:Nat):Fr h (h.alloc o) p:=⟨by rw[zt];omega,fun b hb _=>zm h o hb⟩
theorem Fr.put(h:Heap)(p:Nat)(o:AObj)(hp:p < h.nx):Fr h (h.put p o) p:=⟨nL_ _,fun b _ hb=>zf h p b o hp hb⟩
theorem Fr.finish{p:Nat}(a:Fr (Heap.fh h) g p):Fr h (zy h v g).2 p:=by
 unfold PanE.zy
 split
 ·exact Fr.refl h p
 ·exact⟨a.nx,a.get⟩
theorem zj0:(zy h v g).1=v:=by
 unfold zy;split <;>rfl
end
theorem Gl.fr{m:Int}{h g:Heap}{p:Nat}(G:Gl m h)(F:Fr h g p)(hp:6≤p):Gl m g:=
 ⟨nT G.nx F.nx,fun b hb=>(F.get b (by have:=G.nx;omega) (by omega)).trans (G.get b hb)⟩
theorem Gl.fh{m:Int}{h:Heap}(G:Gl m h):Gl m (Heap.fh h):=⟨G.nx,G.get⟩
theorem Gl.alloc{m:Int}{h:Heap}(G:Gl m h)(o:AObj):Gl m (h.alloc o):=G.fr (Fr.alloc h o 6) (nL_ _)
theorem Gl.reserve{m:Int}{h:Heap}(G:Gl m h)(k:Nat):Gl m (zd k h):=
 ⟨by rw[zK];have:=G.nx;omega,fun b hb=>(wJ k h (by have:=G.nx;omega)).trans (G.get b hb)⟩
theorem Gl.put{m:Int}{h:Heap}(G:Gl m h)(p:Nat)(o:AObj)(hp:6≤p)(hl:p < h.nx):Gl m (h.put p o):=G.fr (Fr.put h p o hl) hp
section
variable {env:Env} {h:Heap}
theorem qj{t e:TypeId}{s b o len cap:Nat}{k:IntKind}{i:Nat}(hu:env.und t=some (.slice e))(hs:env.size e=some s)(hi:i < len):
  wd env t (.slice (some ⟨b,o,none⟩) len cap) (.int k (i:Int))=some (.pointer (some ⟨b,o+i * s,none⟩)):=by
 unfold wd
 rw[hu]
 simp only[hs]
 rw[if_pos ⟨by omega,by omega⟩,Int.toNat_natCast]
def byC(l:Bsy):Vs:=l.map fun x=>.int .u8 (x.toNat:Int)
theorem wg(l:Bsy):(byC l).length=l.length:=by simp[byC]
theorem zhA:∀ l:Bsy,vt (byC l)=some l:=by
 intro l
 induction l with
 |nil=>rfl
 |cons x l ih=>
  show vt (.int .u8 (x.toNat:Int)::byC l)=_
  simp only[vt,ih]
  simp
theorem ut{l:Bsy}{i:Nat}{b:UInt8}{r:Bsy}(h:l.drop i=b::r):((byC l).drop i).head? =some (.int .u8 (b.toNat:Int)):=by
 unfold byC
 rw[← List.map_drop,h];rfl
theorem zr1{l:Bsy}{i:Nat}(b:UInt8)(hi:i < l.length):uG (byC l) i [.int .u8 (b.toNat:Int)]=some (byC (l.set i b)):=by
 simp only[uG,jh,wg,hi,if_true]
 unfold byC
 rw[List.map_set]
theorem zhi{s d:TypeId}{b n c:Nat}{el:TypeId}{l:Bsy}{es:Nat}{ro:Bool}(hg:h.get b=some (.row el (byC l) es ro))(ht:zbw env s d=true)(hn:n=l.length):conv env h s d (.slice (some ⟨b,0,none⟩) n c)=some (.string ⟨⟨l⟩⟩):=by
 have:(byC l).take n=byC l:=List.take_of_length_le (by rw[wg];omega)
 exact qD hg ht (by rw[List.drop_zero,this,wg,hn]) (by rw[List.drop_zero,this];exact zhA l)
theorem zdK(b:BA)(hb:b.data.toList.length≤140737488355328):zdL b=some (fun k=>.slice (some ⟨k,0,none⟩) b.data.toList.length b.data.toList.length,.row 5 (byC b.data.toList) 1 false):=by
 unfold zdL
 rw[if_pos (by rw[Nat.ble_eq];exact hb)];rfl
end
end Go.PanE
