/-
 Part 5 of the proof of Rows.DumpLinesCardSaid. Under the conditions that its statements name (EnvOK and the like).
-/
import Derived.Test.YtihkphfmnnndfaaGreatDoorT04
namespace Go.PanE
section
variable {P:Program} {env:Env} {μ:Loc} {h:Heap} {w:World} {tm:T Value} {tmps:Array Value}
theorem ze9{x x':Value}{n:Nat}(hx:VRel μ x x')(e:jA x=some n):(Builtin.lenOf x').run P w= .ok n w:=by
 unfold jA at e
 split at e
 ·cases hx <;>(simp only[sJ] at e;subst e;simp[Builtin.lenOf])
 ·cases hx
  simp only[sJ] at e;subst e
  simp[Builtin.lenOf]
 ·simp at e
theorem zfj(l:Bsy):zh μ (l.map fun x=>.int .u8 (x.toNat:Int)) (l.map fun x=>.int .u8 (x.toNat:Int)):=by
 refine⟨rfl,fun i x x' hx hx'=>?_⟩
 have:x=x':=by
  have:=hx.symm.trans hx'
  simpa using this
 subst this
 simp only[List.getElem?_map,Option.map_eq_some_iff] at hx
 obtain⟨y,_,rfl⟩:=hx
 exact .int _ _
def zai(k sz:Nat):Value→Nat
 | .string _=>k
 | .slice none _ _=>0
 |_=>k * sz
theorem zcz(R:Rep μ h w){sz n k:Nat}{x x':Value}{xs:Vs}{m:Option Nat}(hx:VRel μ x x')(hl:jA x=some n)(hk:k=m.getD n)(hkn:k≤n)(e:zY h sz m x=some xs):
  ∃ l:Vs,(∀ w1:World,w1.heap=w.heap→(Builtin.firstCells sz k x').run P w1= .ok ⟨l⟩ w1)∧zh μ xs l∧xs.length=zai k sz x:=by
 unfold zY at e
 split at e
 ·simp only[sJ] at e;subst e
  cases hx
  exact⟨[],fun w1 _=>by simp[Builtin.firstCells],.nil,rfl⟩
 ·rename_i a l c
  split at e
  ·rename_i el cells es ro hg hs
   simp only at e
   split at e
   ·rename_i hb
    simp only[sJ] at e;subst e
    simp only[jA,sJ] at hl
    have hkk:m.getD l=k:=by rw[hk,← hl]
    rw[hkk] at hb ⊢
    cases hx with
    |slice b o _ _ c' p hp hc=>
     obtain⟨q,hq,ho⟩:=R.live _ _ hg
     simp only at hq
     rw[hp] at hq;simp only[sJ] at hq;subst hq
     obtain⟨l',hrun,hrel⟩:=zbM (P:=P) ho (nB_ hb)
     exact⟨l',fun w1 hw1=>by simpa[Builtin.firstCells] using hrun w1 hw1,hrel,nB_ hb⟩
   ·simp at e
  ·simp at e
 ·rename_i s
  cases hx
  simp only[jA,sJ] at hl
  split at e
  ·simp only[sJ] at e;subst e
   simp only[Option.getD_none] at hk
   have hks:k=s.size:=by rw[hk,← hl];simp
   refine⟨s.data.toList.map fun x=>.int .u8 (x.toNat:Int),fun w1 _=>?_,zfj _,by simp[hks,zai]⟩
   simp only[Builtin.firstCells,Sem.run_pure]
   congr 1
   apply Array.ext'
   simp[hks]
  ·rename_i m'
   simp only[sJ] at e;subst e
   simp only[Option.getD_some] at hk
   subst hk
   refine⟨(s.data.toList.take k).map fun x=>.int .u8 (x.toNat:Int),fun w1 _=>?_,zfj _,?_⟩
   ·simp only[Builtin.firstCells,Sem.run_pure]
    congr 1
    apply Array.ext'
    simp[zee]
   ·simp[zai]
    simp at hl
    omega
 ·simp at e
theorem zsM(R:Rep μ h w){sz n k:Nat}{x x':Value}{xs:Vs}{m:Option Nat}(hx:VRel μ x x')(hl:jA x=some n)(hk:k=m.getD n)(hkn:k≤n)(e:zY h sz m x=some xs):
  ∃ l:Vs,(Builtin.firstCells sz k x').run P w= .ok ⟨l⟩ w∧zh μ xs l∧xs.length=zai k sz x:=by
 obtain⟨l,h1,h2⟩:=zcz (P:=P) R hx hl hk hkn e
 exact⟨l,h1 w rfl,h2⟩
theorem zm0(E:EnvOK P env)(R:Rep μ h w){t:TypeId}{a:Addr}{v va v':Value}{h':Heap}(ra:VRel μ (.pointer (some a)) va)(rv:VRel μ v v')(e:ym env h t a v=some h'):
  ∃ u,(Instr.storeAt t va v').run P w= .ok () u∧Go1 μ h w μ h' u:=by
 unfold ym at e
 split at e
 ·rename_i n hn
  split at e
  ·rename_i hsz
   cases ra with
   |ptr b o p hp=>
    have rc:=zh.cells rv
    obtain⟨u,hr,g⟩:=yo (P:=P) (o:=o) hp v.cells.toList v'.cells.toList 0 h h' w R rc (by simpa using e)
    refine⟨u,?_,g⟩
    have:v'.cells.size=n:=by
     have:=rc.1
     simp at this
     omega
    simp[Instr.storeAt,Instr.sureAddr,storeVar,E.runSize hn,this,hr]
  ·simp at e
 ·simp at e
theorem zrU(E:EnvOK P env)(R:Rep μ h w){ts:Array TypeId}{rt:TypeId}{d s d' s' v:Value}{h':Heap}(rd:VRel μ d d')(rs:VRel μ s s')(e:zfZ env h ts d s=some (v,h')):
  ∃ v' u,(Builtin.copy_ ts rt #[d',s']).run P w= .ok v' u∧Go1 μ h w μ h' u∧VRel μ v v':=by
 unfold zfZ at e
 split at e
 ·rename_i dt hdt
  split at e
  ·rename_i el base l c hu
   split at e
   ·rename_i sz n hsz hn
    simp only at e
    split at e
    ·rename_i xs hxs
     obtain⟨l',hr,hl,_⟩:=zsM (P:=P) (k:=Nat.min n l) R rs hn (by simp) (Nat.min_le_left _ _) hxs
     have hlen:=ze9 (P:=P) (w:=w) rs hn
     split at e
     ·simp only[sJ,pJ] at e
      obtain⟨rfl,rfl⟩:=e
      have hl0:l'=[]:=by have:=hl.1;simpa using this.symm
      subst hl0
      refine⟨goInt (Nat.min n l),w,?_,Go1.refl R,.int _ _⟩
      cases rd with
      |nils=>
       rw[show Nat.min n 0=0 from Nat.min_zero n] at hr
       simp[Builtin.copy_,hdt,E.runUnd hu,hlen,E.runSize hsz,hr]
      |slice b o _ _ c' p hp hc=>
       simp[Builtin.copy_,hdt,E.runUnd hu,hlen,E.runSize hsz,hr,storeCells]
     ·simp only[sJ,pJ] at e
      obtain⟨rfl,rfl⟩:=e
      cases rd
      refine⟨goInt (Nat.min n 0),w,?_,Go1.refl R,.int _ _⟩
      rw[show Nat.min n 0=0 from Nat.min_zero n] at hr
      simp[Builtin.copy_,hdt,E.runUnd hu,hlen,E.runSize hsz,hr]
     ·rename_i a x
      split at e
      ·rename_i h2 hst
       simp only[sJ,pJ] at e
       obtain⟨rfl,rfl⟩:=e
       cases rd with
       |slice b o _ _ c' p hp hc=>
        obtain⟨u,hu2,g⟩:=yo (P:=P) (o:=o) hp xs l' 0 h h2 w R hl (by simpa using hst)
        refine⟨goInt (Nat.min n l),u,?_,g,.int _ _⟩
        simp[Builtin.copy_,hdt,E.runUnd hu,hlen,E.runSize hsz,hr,hu2]
      ·simp at e
    ·simp at e
   ·simp at e
  ·simp at e
 ·simp at e
end
section
variable {P:Program} {env:Env} {μ:Loc} {h:Heap} {w:World}
theorem zrq(L:Nat):∀ r c,c≤L+(L+768) / 4→Builtin.growBy L r c≤L+(L+768) / 4:=by
 intro r
 induction r with
 |zero=>intro c hc;simpa[Builtin.growBy] using hc
 |succ r ih=>
  intro c hc
  simp only[Builtin.growBy]
  split
  ·exact hc
  ·exact ih _ (by omega)
theorem zq4(L c:Nat)(hc:c < L):Builtin.nextslicecap L c≤2 * L+1000:=by
 unfold Builtin.nextslicecap
 split
 ·omega
 ·split
  ·omega
  ·have:=zrq L 4 c (by omega)
   omega
theorem zrw(R:Rep μ h w)(b:Nat):Go1 μ h w μ (h.kill b) w:=by
 have g:∀ c x,(h.kill b).get c=some x→h.get c=some x:=by
  intro c x hc
  rw[qJ] at hc
  split at hc
  ·simp at hc
  ·exact hc
 refine⟨μ.le_refl,⟨fun c x hc=>R.live c x (g c x hc),fun c c' x x' q q' hc hc'=>R.inj c c' x x' q q' (g c x hc) (g c' x' hc'),R.fh,R.bound,R.glob⟩,nL_ _,?_,fun k _ _=>rfl,rfl,rfl,rfl,nL_ _,fun _ _=>rfl⟩
 rintro k ⟨c,x,q,hc,hq,rfl⟩ _
 exact⟨c,x,q,g c x hc,hq,rfl⟩
theorem storeCells_row{pb:Nat}{el:TypeId}{fr:Nat×Nat}:∀ (vs:Vs) (arr:Array Value) (w:World) (k i:Nat),w.heap[pb]? =some (.cells arr el fr)→k+i+vs.length≤arr.size→
  (∀ j,k+i≤j→¬ (fr.1≤j∧j < fr.2∧j < arr.size))→(∀ v∈vs,v.oneCell'=true)→
  ∃ u arr',(storeCells ⟨pb,k,none⟩ vs i).run P w= .ok () u∧u.heap[pb]? =some (.cells arr' el fr)∧arr'.toList=arr.toList.take (k+i)++vs++arr.toList.drop (k+i+vs.length)∧u.heap.size=w.heap.size∧
   (∀ j,j≠pb→u.heap[j]? =w.heap[j]?)∧u.os=w.os∧u.output=w.output∧u.tape=w.tape:=by
 intro vs
 induction vs with
 |nil=>
  intro arr w k i hw _ _ _
  exact⟨w,arr,rfl,hw,by simp,rfl,fun _ _=>rfl,rfl,rfl,rfl⟩
 |cons v vs ih=>
  intro arr w k i hw hl hf hv
  simp only[lC] at hl
  have hc:w.cell? ⟨pb,k+i,none⟩=some (arr[k+i]'(by omega)):=by
   rw[cell_of_row w pb _ arr el fr hw,Array.getElem?_eq_getElem (by omega)]
  have hfr:w.frozen? ⟨pb,k+i,none⟩=false:=by
   have:=hf (k+i) (nL_ _)
   simp only[World.frozen?,hw,Bool.and_eq_false_iff,decide_eq_false_iff_not]
   by_cases h1:fr.1≤k+i
   ·right;intro h2;exact this ⟨h1,h2,by omega⟩
   ·left;exact h1
  have hheap:(w.setCell ⟨pb,k+i,none⟩ v).heap[pb]? =some (.cells (arr.setIfInBounds (k+i) v) el fr):=by
   simp[World.setCell,Array.getElem?_modify,hw]
  obtain⟨u,arr',h1,h2,h3,h4,h5,h6,h7,h8⟩:=ih (arr.setIfInBounds (k+i) v) (w.setCell ⟨pb,k+i,none⟩ v) k (i+1) hheap (by simp;omega)
   (fun j hj hh=>hf j (by omega) ⟨hh.1,hh.2.1,by simpa using hh.2.2⟩) (fun x hx=>hv x (by simp[hx]))
  refine⟨u,arr',?_,h2,?_,by rw[h4];simp[World.setCell],?_,by rw[h6];rfl,by rw[h7];rfl,by rw[h8];rfl⟩
  ·simp only[storeCells,Sem.run_bind,jj]
   rw[run_store P w _ _ _ (hv v (by simp))]
   simpa[hc,hfr] using h1
  ·rw[h3,Array.toList_setIfInBounds]
   rw[show k+(i+1)=k+i+1 by omega,show k+i+1+vs.length=k+i+(v::vs).length by simp;omega]
   rw[List.take_set,List.take_succ_eq_append_getElem (by simp;omega),List.set_append_right _ _ (by simp;omega),List.drop_set_of_lt (by simp)]
   simp[Nat.min_eq_left (show k+i≤arr.size by omega)]
  ·intro j hj
   rw[h5 j hj]
   simp only[World.setCell,Array.getElem?_modify]
   rw[if_neg (fun e=>hj e.symm)]
theorem zru(R:Rep μ h w){b:Nat}{p q:Place}{x o:AObj}{u:World}(hb:h.get b=some x)(hp:μ b=some p)(hq:q.pb=p.pb)(hs:u.heap.size=w.heap.size)
  (hold:∀ k,k≠p.pb→u.heap[k]? =w.heap[k]?) (hos:u.os=w.os) (hout:u.output=w.output) (htape:u.tape=w.tape) (ho:jK (μ.upd h.nx q) u q o) (hw:x.ro=false:=by rfl):
  Go1 μ h w (μ.upd h.nx q) ((h.kill b).alloc o) u:=by
 have hle:μ.le (μ.upd h.nx q):=jF (R.fh _ (nL_ _))
 have hbn:b < h.nx:=za hb
 have hnx:(h.kill b).nx=h.nx:=rfl
 have g:∀ c y,((h.kill b).alloc o).get c=some y→(c=h.nx∧y=o)∨(c≠h.nx∧c≠b∧h.get c=some y):=by
  intro c y hc
  rw[wB,hnx] at hc
  split at hc
  ·rename_i e;simp only[sJ] at hc;exact .inl ⟨e,hc.symm⟩
  ·rename_i e
   rw[qJ] at hc
   split at hc
   ·simp at hc
   ·rename_i e2;exact .inr ⟨e,e2,hc⟩
 refine⟨hle,⟨?_,?_,?_,?_,R.glob.mono hle⟩,by omega,?_,?_,hos,hout,htape,Nat.le_succ _,fun c hc=>zq _ _ _ _ (by omega)⟩
 ·intro c y hc
  rcases g c y hc with⟨rfl,rfl⟩|⟨e,e2,hc'⟩
  ·exact⟨q,zC _ _ _,ho⟩
  ·obtain⟨r,hr,hor⟩:=R.live c y hc'
   refine⟨r,by rw[zq _ _ _ _ e];exact hr,(hor.mono hle).world (hold _ ?_)⟩
   intro hpb
   exact e2 (R.inj c b y x r p hc' hb hr hp hpb (by rw[hw,Bool.and_false]))
 ·intro c c' y y' r r' hc hc' hr hr' hpb hy
  rcases g c y hc with⟨rfl,_⟩|⟨e,e2,hc1⟩ <;>rcases g c' y' hc' with⟨rfl,_⟩|⟨e',e2',hc1'⟩
  ·rfl
  ·exfalso
   rw[zC] at hr;simp only[sJ] at hr;subst hr
   rw[zq _ _ _ _ e'] at hr'
   exact e2' (R.inj c' b y' x r' p hc1' hb hr' hp (by omega) (by rw[hw,Bool.and_false]))
  ·exfalso
   rw[zC] at hr';simp only[sJ] at hr';subst hr'
   rw[zq _ _ _ _ e] at hr
   exact e2 (R.inj c b y x r p hc1 hb hr hp (by omega) (by rw[hw,Bool.and_false]))
  ·rw[zq _ _ _ _ e] at hr
   rw[zq _ _ _ _ e'] at hr'
   exact R.inj c c' y y' r r' hc1 hc1' hr hr' hpb hy
 ·intro c hc
  have hc':h.nx+1≤c:=hc
  rw[zq _ _ _ _ (by omega)]
  exact R.fh c (by omega)
 ·intro c r hr
  by_cases e:c=h.nx
  ·rw[e,zC] at hr;simp only[sJ] at hr;subst hr
   have:=R.bound b p hp
   omega
  ·rw[zq _ _ _ _ e] at hr
   have:=R.bound c r hr
   omega
 ·rintro k ⟨c,y,r,hc,hr,rfl⟩ _
  rcases g c y hc with⟨rfl,_⟩|⟨e,e2,hc1⟩
  ·rw[zC] at hr;simp only[sJ] at hr;subst hr
   exact⟨b,x,p,hb,hp,hq.symm⟩
  ·rw[zq _ _ _ _ e] at hr
   exact⟨c,y,r,hc1,hr,rfl⟩
 ·intro k hk hown
  refine hold k ?_
  rintro rfl
  exact hown ⟨b,x,p,hb,hp,rfl⟩
end
section
variable {P:Program} {env:Env} {μ:Loc} {h:Heap} {w:World}
theorem zgG(d:TypeDesc):Go.Builtin.append_.match_1 (fun _=>Bool) d (fun _=>true) (fun _=>false)=vI d:=by
 cases d <;>rfl
theorem yg{ts:Array TypeId}{rt st xt el:TypeId}{dx:TypeDesc}{base:OA}{l c sz n:Nat}{x':Value}{new:Vs}{u:World}(E:EnvOK P env)(hst:ts[0]? =some st)(hxt:ts[1]? =some xt)
  (hu:env.und st=some (.slice el)) (hx:env.und xt=some dx) (hd:vI dx=false) (hsz:env.size el=some sz) (hl:(Builtin.lenOf x').run P w= .ok n w) (hc:l+n≤c)
  (hn:(Builtin.firstCells sz n x').run P w= .ok ⟨new⟩ w) (hst2:∀ a,base=some a→(storeCells (a.add (l * sz)) new).run P w= .ok () u) (hb:base=none→u=w):
  (Builtin.append_ ts rt #[.slice base l c,x']).run P w= .ok (.slice base (l+n) c) u:=by
 cases base with
 |none=>
  rw[hb rfl]
  simp[Builtin.append_,hst,hxt,E.runUnd hu,E.runUnd hx,E.runSize hsz,zgG,hd,hl,hc,hn]
 |some a=>
  simp[Builtin.append_,hst,hxt,E.runUnd hu,E.runUnd hx,E.runSize hsz,zgG,hd,hl,hc,hn,hst2 a rfl]
theorem zaZ{ts:Array TypeId}{rt st xt el:TypeId}{dx:TypeDesc}{base:OA}{l c sz n by_:Nat}{z:Value}{x':Value}{old new:Vs}(E:EnvOK P env)(hst:ts[0]? =some st)(hxt:ts[1]? =some xt)
  (hu:env.und st=some (.slice el)) (hx:env.und xt=some dx) (hd:vI dx=false) (hsz:env.size el=some sz) (hby:env.bytes el=some by_) (hz0:env.zero el=some z) (hzs:z.cells.size=sz)
  (hl:(Builtin.lenOf x').run P w= .ok n w) (hc:¬ l+n≤c) (hbig:(2 * (l+n)+1000) * (by_+1)≤281474976710656)
  (ho:∀ w1,w1.heap=w.heap→(Builtin.firstCells sz l (.slice base l c)).run P w1= .ok ⟨old⟩ w1) (hn:∀ w1,w1.heap=w.heap→(Builtin.firstCells sz n x').run P w1= .ok ⟨new⟩ w1):
  ∃ (cap:Nat) (rest:Vs),l+n≤cap∧rest.length=(cap - (l+n)) * sz∧
   (Builtin.append_ ts rt #[.slice base l c,x']).run P w= .ok (.slice (some ⟨w.heap.size,0,none⟩) (l+n) cap) (({w with drawn:=w.drawn+1}:World).alloc (.cells ⟨old++new++rest⟩ el)):=by
 obtain⟨i,hi,rfl⟩:=E.bytes _ _ hby
 let q:Question:=.appendCap (l+n) c el
 let cap:Nat:=q.cut (w.tape w.drawn q)
 have hcap:l+n≤cap:=by
  show l+n≤l+n+_
  omega
 refine⟨cap,(Builtin.zeroCells z.cells (cap - (l+n))).toList,hcap,by simp[Builtin.zeroCells,hzs],?_⟩
 have g2:¬ (Builtin.nextslicecap (l+n) c * i.bytes>2 ^ 48):=by
  have h1:=zq4 (l+n) c (by omega)
  have h2:Builtin.nextslicecap (l+n) c * i.bytes≤(2 * (l+n)+1000) * i.bytes:=Nat.mul_le_mul_right _ h1
  have h3:(2 * (l+n)+1000) * (i.bytes+1)=(2 * (l+n)+1000) * i.bytes+(2 * (l+n)+1000):=Nat.mul_succ _ _
  omega
 have g1:¬ (((l+n:Nat):Int)>IntKind.i64.max):=by
  have h3:(2 * (l+n)+1000) * (i.bytes+1)=(2 * (l+n)+1000) * i.bytes+(2 * (l+n)+1000):=Nat.mul_succ _ _
  simp
  omega
 have ho1:=ho {w with drawn:=w.drawn+1} rfl
 have hn1:=hn {w with drawn:=w.drawn+1} rfl
 have hw1:({w with drawn:=w.drawn+1}:World).heap.size=w.heap.size:=rfl
 have hfor:q.forced=false:=rfl
 have hge:∀ w1:World,w1.heap=w.heap→(typeInfo el).run P w1= .ok i w1:=fun w1 _=>E.runInfo hi w1
 have hcap1:q.cut (w.tape w.drawn q)=cap:=rfl
 simp only[Builtin.append_,List.getElem?_toArray,hst,hxt,Sem.run_bind,E.runUnd hu,E.runUnd hx,Result.andThen_ok,E.runSize hsz,Sem.run_pure,zgG,hd,Bool.false_eq_true,if_false,hl,Bool.not_false,if_true,List.getElem?_cons_zero,List.getElem?_cons_succ,
  hc,E.runInfo hi,Sem.run_ite,g1,false_and,g2,run_choose,hfor,hcap1,q,run_askRoom]
 rw[ho1]
 simp only[Result.andThen_ok]
 rw[hn1]
 simp only[Result.andThen_ok,E.runZero hz0,newRow,Sem.run_bind,run_newObj,Sem.run_pure]
 simp only[World.alloc]
 congr 3
 simp
theorem zdk(R:Rep μ h w){el:TypeId}{sz k cap:Nat}{cells cells' rest:Vs}(hs0:sz≠0)(hr:zh μ cells cells')(hl:cells.length=k * sz)(hcap:k≤cap)(hrest:rest.length=(cap - k) * sz):
  Go1 μ h w (μ.upd h.nx ⟨w.heap.size,0,k * sz,(cap - k) * sz,sz,none⟩) (h.alloc (.row el cells sz false)) (({w with drawn:=w.drawn+1}:World).alloc (.cells ⟨cells'++rest⟩ el))∧
   VRel (μ.upd h.nx ⟨w.heap.size,0,k * sz,(cap - k) * sz,sz,none⟩) (.slice (some ⟨h.nx,0,none⟩) k k) (.slice (some ⟨w.heap.size,0,none⟩) k cap):=by
 have hle:μ.le (μ.upd h.nx ⟨w.heap.size,0,k * sz,(cap - k) * sz,sz,none⟩):=jF (R.fh _ (nL_ _))
 have hcl:cells'.length=k * sz:=by rw[← hr.1,hl]
 refine⟨zg2 R (by simp) (fun j hj=>heap_alloc_old _ _ j hj) rfl rfl rfl rfl ?_,?_⟩
 ·refine⟨⟨cells'++rest⟩,(0,0),heap_alloc_new _ _,hl.symm,rfl,?_,⟨fun h=>absurd h hs0,fun _=>rfl⟩,?_,⟨fun _ i _ hh=>by simp at hh,fun h=>by cases h⟩⟩
  ·simp[hcl,hrest]
  ·simp only[List.drop_zero]
   rw[List.take_append_of_le_length (by omega),List.take_of_length_le (by omega)]
   exact hr.mono hle
 ·refine .slice h.nx 0 k k cap _ (zC _ _ _) (.inr ⟨hs0,by simp,hcap,?_⟩)
  have:(cap - k) * sz+k * sz=cap * sz:=by rw[← Nat.add_mul];congr 1;omega
  simp only
  omega
theorem zmk(E:EnvOK P env)(R:Rep μ h w){ts:Array TypeId}{rt:TypeId}{s x s' x' v:Value}{h':Heap}(rs:VRel μ s s')(rx:VRel μ x x')(e:zu env h ts s x=some (v,h')):
  ∃ v' u ν,(Builtin.append_ ts rt #[s',x']).run P w= .ok v' u∧Go1 μ h w ν h' u∧VRel ν v v':=by
 unfold zu at e
 split at e
 ·rename_i st xt hst hxt
  split at e
  ·rename_i el dx base l c hu hx
   split at e
   ·rename_i sz by_ z n hsz hby hz hn
    split at e
    ·rename_i xs hxs
     split at e
     ·simp at e
     rename_i hchk
     simp only[Bool.or_eq_true,Bool.not_eq_true',not_or,Bool.not_eq_true,Bool.not_eq_false] at hchk
     obtain⟨⟨⟨hd,hs0⟩,hxl⟩,hzs⟩:=hchk
     have hxl:=nB_ hxl
     have hzs:=nB_ hzs
     have hs0:sz≠0:=fun h=>by subst h;simp at hs0
     have hlen:=ze9 (P:=P) (w:=w) rx hn
     obtain⟨new,hnew1,hrn,_⟩:=zcz (P:=P) (k:=n) R rx hn (by simp) (nL_ _) hxs
     have hnew:=hnew1 w rfl
     split at e
     · -- nothing is appended
      rename_i hn0
      have hn0:=nB_ hn0
      subst hn0
      split at e
      ·rename_i hlc
       have hlc:l≤c:=by simpa using hlc
       simp only[sJ,pJ] at e
       obtain⟨rfl,rfl⟩:=e
       have hnil:new=[]:=by
        have:=hrn.1
        rw[hxl] at this
        simpa using this.symm
       subst hnil
       cases rs with
       |nils=>
        exact⟨_,w,μ,yg E hst hxt hu hx hd hsz hlen (by omega) hnew (fun a h=>by simp at h) (fun _=>rfl),Go1.refl R,.nils⟩
       |slice b o _ _ c' p hp hc=>
        have hcc:c≤c':=by rcases hc with hc|⟨_,_,hc,_⟩ <;>omega
        exact⟨_,w,μ,yg E hst hxt hu hx hd hsz hlen (by omega) hnew (fun a h=>rfl) (fun h=>by simp at h),Go1.refl R,.slice b o l c c' p hp hc⟩
      ·simp at e
     rename_i hn0
     split at e
     · -- there is room
      rename_i hroom
      have hroom:l+n≤c:=by simpa using hroom
      split at e
      ·rename_i b o
       split at e
       ·rename_i h2 hst2
        simp only[sJ,pJ] at e
        obtain⟨rfl,rfl⟩:=e
        cases rs with
        |slice _ _ _ _ c' p hp hc=>
         have hcc:c≤c':=by rcases hc with hc|⟨_,_,hc,_⟩ <;>omega
         obtain⟨u,hu2,g⟩:=yo (P:=P) (o:=o+l * sz) hp xs new 0 h h2 w R hrn (by simpa using hst2)
         refine⟨_,u,μ,yg E hst hxt hu hx hd hsz hlen (by omega) hnew (fun a ha=>?_) (fun h=>by simp at h),g,.slice b o (l+n) c c' p hp hc⟩
         simp only[sJ] at ha;subst ha
         rw[jj,Nat.add_assoc]
         exact hu2
       ·simp at e
      ·simp at e
     rename_i hroom
     have hroom:¬ l+n≤c:=by simpa using hroom
     split at e
     ·rename_i hbig
      have hbig:(2 * (l+n)+1000) * (by_+1)≤281474976710656:=by simpa using hbig
      split at e
      · -- onto nil
       simp only[sJ,pJ] at e
       obtain⟨rfl,rfl⟩:=e
       cases rs
       obtain⟨cap,rest,hcap,hrest,hrun⟩:=zaZ (old:=[]) (base:=none) (rt:=rt) E hst hxt hu hx hd hsz hby hz hzs hlen hroom hbig (fun w1 _=>by simp[Builtin.firstCells]) hnew1
       obtain⟨g,rv⟩:=zdk R (el:=el) (sz:=sz) (k:=0+n) (cap:=cap) (cells:=xs) (cells':=[]++new) (rest:=rest) hs0 (by simpa using hrn) (by simpa using hxl) hcap hrest
       exact⟨_,_,_,hrun,g,rv⟩
      ·rename_i b o
       split at e
       · -- the capacity is known
        rename_i old ef hold
        simp only[sJ,pJ] at e
        obtain⟨rfl,rfl⟩:=e
        cases rs with
        |slice _ _ _ _ c' p hp hc=>
         have hcc:=(yd E R hp hc hsz ef).1 rfl
         subst hcc
         obtain⟨old',hold1,hro,hol⟩:=zcz (P:=P) (k:=l) (n:=l) R (.slice b o l c' c' p hp (.inl rfl)) rfl (by simp) (nL_ _) hold
         obtain⟨cap,rest,hcap,hrest,hrun⟩:=zaZ (rt:=rt) E hst hxt hu hx hd hsz hby hz hzs hlen hroom hbig hold1 hnew1
         obtain⟨g,rv⟩:=zdk R (el:=el) (sz:=sz) (k:=l+n) (cap:=cap) (cells:=old++xs) (cells':=old'++new) (rest:=rest) hs0 (hro.append hrn) (by simp[hol,hxl,zai,Nat.add_mul]) hcap hrest
         exact⟨_,_,_,hrun,g,rv⟩
       · -- it is not
        rename_i old ef hold
        split at e
        ·rename_i e1 cs es hg
         split at e
         ·rename_i hcond
          simp only[bA,Nat.ble_eq] at hcond
          obtain⟨⟨⟨he1,hone⟩,hlc⟩,ho0⟩:=hcond
          have ho0:=nB_ ho0
          have he1:=nB_ he1
          rw[he1] at hg
          simp only[sJ,pJ] at e
          obtain⟨rfl,rfl⟩:=e
          cases rs with
          |slice _ _ _ _ c' p hp hc=>
           obtain⟨hes,_,hfull⟩:=(yd E R hp hc hsz ef).2 rfl
           obtain⟨old',hold1,hro,hol⟩:=zcz (P:=P) (k:=l) (n:=l) R (.slice b o l c c' p hp hc) rfl (by simp) (nL_ _) hold
           have holen:(old++xs).length=(l+n) * sz:=by simp[hol,hxl,zai,Nat.add_mul]
           by_cases hin:l+n≤c'
           · -- in place
            obtain⟨q,hq,hoq⟩:=R.live _ _ hg
            rw[hp] at hq;simp only[sJ] at hq;subst hq
            obtain⟨arr,fr,a1,a2,a3,a4,a5,a6,a7⟩:=hoq
            have hc2:o+c' * p.es≤p.size+p.extra:=by
             rcases hc with hc|⟨_,_,_,hc⟩
             ·omega
             ·exact hc
            rw[hes] at hc2
            have hm:(l+n) * sz≤c' * sz:=Nat.mul_le_mul_right _ hin
            have hml:l * sz+n * sz=(l+n) * sz:=by rw[Nat.add_mul]
            have hnl:new.length=n * sz:=by rw[← hrn.1,hxl]
            have hone':∀ v∈new,v.oneCell'=true:=by
             intro v hv
             obtain⟨i,hi,hiv⟩:=List.getElem_of_mem hv
             have hix:i < xs.length:=by rw[hrn.1];exact hi
             have hr:=hrn.2 i xs[i] new[i] (by simp[hix]) (by simp[hi])
             rw[hiv] at hr
             exact oneCell_eq hr (List.all_eq_true.1 hone _ (List.getElem_mem hix))
            obtain⟨u,arr',hu2,hu3,hu4,hu5,hu6,hu7,hu8,hu9⟩:=storeCells_row (P:=P) (pb:=p.pb) new arr w (p.po+o+l * sz) 0 a1 (by omega) (fun j hj=>a7.1 rfl j (by omega)) hone'
            let q:Place:=⟨p.pb,p.po+o,(l+n) * sz,p.size+p.extra - o - (l+n) * sz,sz,none⟩
            have hle:μ.le (μ.upd h.nx q):=jF (R.fh _ (nL_ _))
            have hseg:old'=(arr.toList.drop (p.po+o)).take (l * sz):=by
             have h1:=hold1 w rfl
             simp only[Builtin.firstCells] at h1
             have h2:=run_loadCells (P:=P) w ⟨p.pb,p.po+o,none⟩ (l * sz) (fun j=>arr.getD (p.po+o+j) undef) (fun j hj=>by
              rw[jj,cell_of_row w p.pb _ arr el fr a1,Array.getElem?_eq_getElem (by omega)]
              simp[Array.getD];omega)
             rw[h1] at h2
             simp only[Result.ok.injEq,and_true] at h2
             have h3:=congrArg Array.toList h2
             simp only at h3
             rw[h3]
             apply List.ext_getElem?
             intro j
             rw[List.getElem?_take,List.getElem?_drop]
             by_cases hj:j < l * sz
             ·rw[if_pos hj]
              simp[hj]
              rw[Array.getElem?_eq_getElem (by omega)]
              simp
             ·rw[if_neg hj]
              simp[hj]
            have harr:(arr'.toList.drop (p.po+o)).take ((l+n) * sz)=old'++new:=by
             rw[hu4,hseg]
             simp only[Nat.add_zero]
             have hal:arr.toList.length=arr.size:=by simp
             rw[List.append_assoc,List.drop_append_of_le_length (by simp;omega),List.drop_take,show p.po+o+l * sz - (p.po+o)=l * sz by omega]
             rw[List.take_append,List.length_take,List.length_drop]
             rw[show min (l * sz) (arr.toList.length - (p.po+o))=l * sz by omega]
             rw[List.take_of_length_le (by simp;omega)]
             have key:∀ t:Vs,(new++t).take ((l+n) * sz - l * sz)=new:=by
              intro t
              rw[List.take_append_of_le_length (by omega),List.take_of_length_le (by omega)]
             rw[key]
            have harrs:arr'.size=arr.size:=by
             have:=congrArg List.length hu4
             simp at this
             omega
            have g:=zru (o:=.row el (old++xs) sz false) (q:=q) R hg hp rfl hu5 hu6 hu7 hu8 hu9 (by
             refine⟨arr',fr,hu3,holen.symm,rfl,?_,⟨fun h=>absurd h hs0,fun _=>by show p.po+o=0;rw[a5.2 rfl,ho0]⟩,?_,?_⟩
             ·show arr'.size=p.po+o+(l+n) * sz+(p.size+p.extra - o - (l+n) * sz)
              omega
             ·show zh _ _ ((arr'.toList.drop (p.po+o)).take ((l+n) * sz))
              rw[harr]
              exact(hro.append hrn).mono hle
             ·refine⟨?_,fun h=>by cases h⟩
              intro _ i hi hh
              have hi':p.po+o≤i:=hi
              exact a7.1 rfl i (by omega) ⟨hh.1,hh.2.1,by omega⟩)
            refine⟨_,u,_,yg E hst hxt hu hx hd hsz hlen hin hnew (fun a ha=>?_) (fun h=>by simp at h),g,?_⟩
            ·simp only[sJ] at ha;subst ha
             rw[jj]
             exact hu2
            ·refine .slice h.nx 0 (l+n) (l+n) c' q (zC _ _ _) (.inr ⟨hs0,?_,hin,?_⟩)
             ·show 0+(l+n) * sz=(l+n) * sz
              omega
             ·show 0+c' * sz≤(l+n) * sz+(p.size+p.extra - o - (l+n) * sz)
              omega
           · -- a new row
            obtain⟨cap,rest,hcap,hrest,hrun⟩:=zaZ (rt:=rt) E hst hxt hu hx hd hsz hby hz hzs hlen hin hbig hold1 hnew1
            have gk:=zrw R b
            obtain⟨g,rv⟩:=zdk gk.rep (el:=el) (sz:=sz) (k:=l+n) (cap:=cap) (cells:=old++xs) (cells':=old'++new) (rest:=rest) hs0 (hro.append hrn) holen hcap hrest
            exact⟨_,_,_,hrun,gk.trans g,rv⟩
         ·simp at e
        ·simp at e
       ·simp at e
      ·simp at e
     ·simp at e
    ·simp at e
   ·simp at e
  ·simp at e
 ·simp at e
end
def js(P:Program)(call:FuncId→Vs→Heap→Option (Value×Heap)):Prop:=
 ∀ f args h v h',call f args h=some (v,h')→∀ (μ:Loc) (w:World) (args':Vs),Rep μ h w→zh μ args args'→
  Calls P f ⟨args'⟩ w fun e u=>∃ ν v',e= .returned v'∧Go1 μ h w ν h' u∧VRel ν v v'
section
variable {P:Program} {env:Env} {μ:Loc} {h:Heap} {w:World} {tm:T Value} {tmps:Array Value} {call:FuncId→Vs→Heap→Option (Value×Heap)}
theorem jk{o:Oper}{a:Act}{next:Act→World→Prop}{Q:Exit→Act→World→Prop}{v:Value}{u:World}
  (hr:(execOp a.eval o).run P w= .ok (.value v) u) (hn:next (a.put o.dst v) u):o.wp P a w next Q:=by
 unfold Oper.wp
 rw[hr]
 exact hn
theorem zgI{s:BA}{pos:Nat}{b:Nat}{ty:TypeId}(hb:w.heap[b]? =some (.stringIter s pos)):
  (Instr.next (.pointer (some ⟨b,0,none⟩)) true ty).run P w=
   if pos < s.size then .ok (.tuple #[.bool true,goInt pos,.int .i32 (Utf8.decode s pos).1]) {w with heap:=w.heap.setIfInBounds b (.stringIter s (pos+(Utf8.decode s pos).2))}
   else .ok (.tuple #[.bool false]) w:=by
 have hg:(getObj b).run P w= .ok (.stringIter s pos) w:=by
  simp[getObj,Sem.run,hb]
 simp only[Instr.next,Sem.run_bind,hg,Result.andThen_ok]
 split
 ·simp[setObj,Sem.run,hb]
 ·rfl
theorem zgQ(E:EnvOK P env)(R:Rep μ h w){t kt el:TypeId}{b:Nat}{m' k k' v v':Value}{es:List (Value×Value)}{kn:List Int}(hu:env.und t=some (.map kt el))(hg:h.get b=some (.map es))(rm:VRel μ (.map (some b)) m')(rk:VRel μ k k')(rv:VRel μ v v')
  (hk:env.key kt k=true) (hkn:qA k=some kn) (hf:findA env kt kn es=some none):
  ∃ u,(Instr.mapUpdate t m' k' v').run P w= .ok () u∧Go1 μ h w μ (h.put b (.map (es++[(k,v)]))) u:=by
 cases rm with
 |map _ p hp=>
  obtain⟨p',hp',ho⟩:=R.live _ _ hg
  rw[hp] at hp'
  simp only[sJ] at hp';subst hp'
  obtain⟨arr,clock,hw,hs,hr,hb1,hb2⟩:=ho
  obtain⟨rfl,_,c1,f1⟩:=zeV (w:=w) E hk hkn rk hs hr hf
  have hgo:(getObj p.pb).run P w= .ok (.map arr clock) w:=by simp[getObj,Sem.run,hw]
  have hlt:=R.bound _ _ hp
  refine⟨{w with heap:=w.heap.setIfInBounds p.pb (.map (arr.push {key:=k',val:=v',born:=clock}) (clock+1))},?_,?_⟩
  ·simp[Instr.mapUpdate,E.runUnd hu,hgo,c1,f1,setObj,Sem.run,hw]
  ·refine zcj (o:=.map (es++[(k',v)])) R hg hp (by simp) (fun k hk=>by simp only[Array.getElem?_setIfInBounds];rw[if_neg (fun e=>hk e.symm)]) rfl rfl rfl ?_
   refine⟨arr.push {key:=k',val:=v',born:=clock},clock+1,by simp[hlt],by simp[hs],?_,?_,?_⟩
   ·intro i e kv h1 h2
    rw[Array.getElem?_push] at h1
    split at h1
    ·rename_i hi
     simp only[sJ] at h1;subst h1
     rw[List.getElem?_append_right (by omega)] at h2
     have:i - es.length=0:=by omega
     rw[this] at h2
     simp only[List.getElem?_cons_zero,sJ] at h2;subst h2
     exact⟨rk,rv⟩
    ·rename_i hi
     have hi2:=(Array.getElem?_eq_some_iff.1 h1).1
     rw[List.getElem?_append_left (by omega)] at h2
     exact hr i e kv h1 h2
   ·intro i e h1
    rw[Array.getElem?_push] at h1
    split at h1
    ·simp only[sJ] at h1;subst h1;exact nS _
    ·exact Nat.lt_succ_of_lt (hb1 i e h1)
   ·intro i j e e' h1 h2 he
    rw[Array.getElem?_push] at h1 h2
    split at h1
    ·rename_i hi
     simp only[sJ] at h1;subst h1
     split at h2
     ·rename_i hj;omega
     ·have:=hb1 j e' h2
      simp only at he;omega
    ·split at h2
     ·simp only[sJ] at h2;subst h2
      have:=hb1 i e h1
      simp only at he;omega
     ·exact hb2 i j e e' h1 h2 he
theorem zl3(E:EnvOK P env)(R:Rep μ h w)(TR:wi μ tm tmps)(C:js P call){ds:List Deferred}{o:Oper}{v:Value}{h':Heap}(e:opE env call h tm o.op=some (v,h'))
  {next:Act→World→Prop} {Q:Exit→Act→World→Prop} (hn:∀ u ν v',Go1 μ h w ν h' u→VRel ν v v'→next (Act.put ⟨tmps,ds⟩ o.dst v') u):o.wp P ⟨tmps,ds⟩ w next Q:=by
 unfold opE at e
 split at e
 ·rename_i t a x ho
  split at e
  ·rename_i ad vx ha hx
   split at e
   ·rename_i h2 hst
    simp only[sJ,pJ] at e
    obtain⟨rfl,rfl⟩:=e
    obtain⟨u,hr,g⟩:=zm0 (P:=P) E R (zQ (ds:=ds) TR ha) (zQ (ds:=ds) TR hx) hst
    have:=hn u μ undef g VRel.undef
    unfold Oper.wp execOp
    rw[ho]
    simp only[Sem.run_bind,hr,Result.andThen_ok,Sem.run_pure]
    exact this
   ·simp at e
  ·simp at e
 ·rename_i t m k x ho
  split at e
  ·rename_i b kv vx hm hkv hx
   split at e
   ·rename_i kt el es kn hu hg hkn
    split at e
    ·rename_i hk
     split at e
     ·rename_i hf
      simp only[sJ,pJ] at e
      obtain⟨rfl,rfl⟩:=e
      obtain⟨u,hr,g⟩:=zgQ (P:=P) E R hu hg (zQ (ds:=ds) TR hm) (zQ (ds:=ds) TR hkv) (zQ (ds:=ds) TR hx) hk hkn hf
      have:=hn u μ undef g VRel.undef
      unfold Oper.wp execOp
      rw[ho]
      simp only[Sem.run_bind,hr,Result.andThen_ok,Sem.run_pure]
      exact this
     ·simp at e
    ·simp at e
   ·simp at e
  ·simp at e
 ·rename_i it ho
  split at e
  ·rename_i b hb
   split at e
   ·rename_i s pos hg
    obtain⟨p,hp,hor⟩:=R.live _ _ hg
    have hor':w.heap[p.pb]? =some (.stringIter s pos):=hor.1
    have hpo:p.po=0:=hor.2
    have rb:=zQ (ds:=ds) TR hb
    generalize hbv:Act.eval ⟨tmps,ds⟩ it=bv at rb
    cases rb with
    |ptr _ _ q hq=>
     rw[hp] at hq;simp only[sJ] at hq;subst hq
     have hadr:p.po+0=0:=by omega
     split at e
     ·rename_i hlt
      simp only[sJ,pJ] at e
      obtain⟨rfl,rfl⟩:=e
      have hb2:=R.bound _ _ hp
      have g:=zcj (o:=.siter s (pos+(Utf8.decode s pos).2)) (u:={w with heap:=w.heap.setIfInBounds p.pb (.stringIter s (pos+(Utf8.decode s pos).2))}) R hg hp (by simp)
       (fun k hk=>by simp only[Array.getElem?_setIfInBounds];rw[if_neg (fun e=>hk e.symm)]) rfl rfl rfl ⟨by simp[hb2],hpo⟩
      refine jk (v:=.tuple #[.bool true,goInt pos,.int .i32 (Utf8.decode s pos).1]) ?_ (hn _ μ _ g ?_)
      ·unfold execOp
       rw[ho]
       simp only[hbv,hadr,Sem.run_bind,zgI hor',hlt,if_true,Result.andThen_ok,Sem.run_pure]
      ·exact zh.tuple.2 (.cons (.bool _) (.cons (.int _ _) (.cons (.int _ _) .nil)))
     ·rename_i hlt
      simp only[sJ,pJ] at e
      obtain⟨rfl,rfl⟩:=e
      refine jk (v:=.tuple #[.bool false]) ?_ (hn _ μ _ (Go1.refl R) ?_)
      ·unfold execOp
       rw[ho]
       simp only[hbv,hadr,Sem.run_bind,zgI hor',hlt,if_false,Result.andThen_ok,Sem.run_pure]
      ·exact zh.tuple.2 (.cons (.bool _) .nil)
   ·simp at e
  ·simp at e
 ·rename_i f az ts ho
  split at e
  ·rename_i g fi ca vs hf hvs
   split at e
   ·rename_i fn hfn
    obtain⟨hF,hname,hbody⟩:=E.fn g fn hfn
    have rf:=zQ (ds:=ds) TR hf
    have rv:=vG (ds:=ds) TR hvs
    generalize hfv:Act.eval ⟨tmps,ds⟩ f=fv at rf
    cases rf with
    |func _ _ xs' _ ys' h1 h2 h3 h4=>
     have hb:fn.body.isNone=false:=by cases hbb:fn.body <;>simp_all
     have hargs:zh μ (fi.toList++vs++ca.toList) (xs'.toList++az.toList.map (Act.eval ⟨tmps,ds⟩)++ys'.toList):=by
      refine zh.append (zh.append ⟨by simpa using h1,fun i x x' hx hx'=>h2 i x x' (by simpa using hx) (by simpa using hx')⟩ rv) ⟨by simpa using h3,fun i x x' hx hx'=>h4 i x x' (by simpa using hx) (by simpa using hx')⟩
     have hc:=C g _ h v h' e μ w _ R hargs
     unfold Oper.wp execOp
     rw[ho]
     have hname':¬ (fn.name== "runtime.NumGoroutine")=true:=by rw[hname];simp
     simp only[resolve,hfv,Deferred.ofValue,pure_bind,Sem.run_bind,Sem.run_pure,Result.andThen_ok,invoke,callFunc,run_program,hF,hname',hb,Bool.false_eq_true,if_false,Oper.upon_enter]
     have harr:xs'++az.map (Act.eval ⟨tmps,ds⟩)++ys'=(⟨xs'.toList++az.toList.map (Act.eval ⟨tmps,ds⟩)++ys'.toList⟩:Array Value):=by
      apply Array.ext';simp
     rw[harr]
     refine hc.mono ?_
     rintro e' u ⟨ν,v',rfl,g1,rv'⟩
     exact hn u ν v' g1 rv'
   ·split at e
    ·rename_i x hx
     have rf:=zQ (ds:=ds) TR hf
     have rv:=vG (ds:=ds) TR hvs
     generalize hfv:Act.eval ⟨tmps,ds⟩ f=fv at rf
     cases rf with
     |func _ _ xs' _ ys' h1 h2 h3 h4=>
      have hargs:zh μ (fi.toList++vs++ca.toList) (xs'.toList++az.toList.map (Act.eval ⟨tmps,ds⟩)++ys'.toList):=by
       refine zh.append (zh.append ⟨by simpa using h1,fun i x x' hx hx'=>h2 i x x' (by simpa using hx) (by simpa using hx')⟩ rv) ⟨by simpa using h3,fun i x x' hx hx'=>h4 i x x' (by simpa using hx) (by simpa using hx')⟩
      obtain⟨u,ν,v',hr,g1,rv'⟩:=E.ext g x hx _ h v h' e μ w _ R hargs
      have harr:xs'++az.map (Act.eval ⟨tmps,ds⟩)++ys'=(⟨xs'.toList++az.toList.map (Act.eval ⟨tmps,ds⟩)++ys'.toList⟩:Array Value):=by
       apply Array.ext';simp
      refine jk (v:=v') (u:=u) ?_ (hn u ν v' g1 rv')
      unfold execOp
      rw[ho]
      simp only[resolve,hfv,Deferred.ofValue,pure_bind,invoke]
      rw[harr];exact hr
    ·simp at e
  ·simp at e
 ·rename_i az ts ho
  split at e
  ·rename_i s x hl
   have rv:=vG (ds:=ds) TR hl
   obtain⟨s',x',hs',rs,rx⟩:∃ s' x',az.toList.map (Act.eval ⟨tmps,ds⟩)=[s',x']∧VRel μ s s'∧VRel μ x x':=by
    rcases rv.cases with⟨h,_⟩|⟨a,a',m,m',h,h',ra,rm⟩
    ·simp at h
    ·simp only[List.cons.injEq] at h;obtain⟨rfl,rfl⟩:=h
     rcases rm.cases with⟨h,_⟩|⟨b,b',n,n',h,h'',rb,rn⟩
     ·simp at h
     ·simp only[List.cons.injEq] at h;obtain⟨rfl,rfl⟩:=h
      rcases rn.cases with⟨_,h3⟩|⟨_,_,_,_,h,_⟩
      ·subst h3;exact⟨a',b',by rw[h',h''],ra,rb⟩
      ·simp at h
   obtain⟨v',u,ν,hr,g,rv'⟩:=zmk (rt:=o.type) E R rs rx e
   refine jk ?_ (hn u ν v' g rv')
   unfold execOp
   rw[ho]
   have:az.map (Act.eval ⟨tmps,ds⟩)= #[s',x']:=by apply Array.ext';simpa using hs'
   simp[resolve,invoke,builtin,this,hr]
  ·simp at e
 ·rename_i az ts ho
  split at e
  ·rename_i s x hl
   have rv:=vG (ds:=ds) TR hl
   obtain⟨s',x',hs',rs,rx⟩:∃ s' x',az.toList.map (Act.eval ⟨tmps,ds⟩)=[s',x']∧VRel μ s s'∧VRel μ x x':=by
    rcases rv.cases with⟨h,_⟩|⟨a,a',m,m',h,h',ra,rm⟩
    ·simp at h
    ·simp only[List.cons.injEq] at h;obtain⟨rfl,rfl⟩:=h
     rcases rm.cases with⟨h,_⟩|⟨b,b',n,n',h,h'',rb,rn⟩
     ·simp at h
     ·simp only[List.cons.injEq] at h;obtain⟨rfl,rfl⟩:=h
      rcases rn.cases with⟨_,h3⟩|⟨_,_,_,_,h,_⟩
      ·subst h3;exact⟨a',b',by rw[h',h''],ra,rb⟩
      ·simp at h
   obtain⟨v',u,hr,g,rv'⟩:=zrU (P:=P) (rt:=o.type) E R rs rx e
   refine jk ?_ (hn u μ v' g rv')
   unfold execOp
   rw[ho]
   have:az.map (Act.eval ⟨tmps,ds⟩)= #[s',x']:=by apply Array.ext';simpa using hs'
   simp[resolve,invoke,builtin,this,hr]
  ·simp at e
 ·simp at e
end
def jN(f:St→Option (Ex×St)):Nat→St→Option (Ex×St)
 |0,_=>none
 |n+1,s=>match f s with
  |some (.normal,s')=>jN f n s'
  |r=>r
section
variable (env:Env) (call:FuncId→Vs→Heap→Option (Value×Heap)) (nt:Nat) (draw:List Oper→St→Option St) (L:Nat)
def ecA:Code→St→Option (Ex×St)
 | .skip=>fun s=>some (.normal,s)
 | .label _=>fun s=>some (.normal,s)
 | .region _ ops dr=>fun s=>
  match(bif dr then draw ops.toList s else zaa env call nt ops.toList ops.toList s) with
  |some s'=>some (.normal,s')
  |none=>none
 | .seq a b=>fun s=>match ecA a s with
  |some (.normal,s')=>ecA b s'
  |r=>r
 | .cond c a b=>fun s=>match rd s.tm c with
  |some (.bool t)=>bif t then ecA a s else ecA b s
  |_=>none
 | .block id b=>fun s=>match ecA b s with
  |some (.exit i,s')=>if i=id then some (.normal,s') else some (.exit i,s')
  |r=>r
 | .loop b=>fun s=>jN (ecA b) L s
 | .exit id=>fun s=>some (.exit id,s)
 | .ret=>fun s=>some (.ret,s)
 |_=>fun _=>none
def za3(h:Heap)(tm:T Value):ResultVar→Option Value
 | .tmp t=>some (rdT tm t)
 | .cell a t=>match rdT tm a with
  | .pointer (some ad)=>ui env h t ad
  |_=>none
def vX(h:Heap)(tm:T Value):List ResultVar→Option (Vs)
 |[]=>some []
 |r::l=>match za3 env h tm r,vX h tm l with
  |some v,some vs=>some (v::vs)
  |_,_=>none
def uH(fn:Func)(s:St):Option Value:=
 match vX env s.h s.tm fn.results.toList with
 |some [v]=>some v
 |some vs=>some (.tuple ⟨vs⟩)
 |none=>none
def zas:Vs→Nat→T Value→T Value
 |[],_,tm=>tm
 |v::l,k,tm=>zas l (k+1) (tm.put k v)
def zM(nx:Nat):Nat→Value→Bool
 |_,.bool _|_,.int _ _|_,.string _|_,.pointer none|_,.slice none _ _|_,.map none|_,.nilFunc|_,.nilIface=>true
 |_,.pointer (some a)=>Nat.blt a.block nx
 |_,.slice (some a) _ _=>Nat.blt a.block nx
 |_,.map (some b)=>Nat.blt b nx
 |d+1,.iface _ v=>zM nx d v
 |d+1,.agg cs=>cs.toList.all (zM nx d)
 |d+1,.tuple cs=>cs.toList.all (zM nx d)
 |_,_=>false
end
def zf0(env:Env)(call:FuncId→Vs→Heap→Option (Value×Heap))(draw:Nat→List Oper→St→Option St)(L:Nat)(fn:Func)(c:Code)(args:Vs)(h:Heap):Option (Value×Heap):=
 match ecA env call fn.ntmps (draw fn.ntmps) L c ⟨zas args 0 .nil,{h with wm:=h.nx}⟩ with
 |some (.normal,s)|some (.ret,s)=>match uH env fn s with
  |some v=>if Nat.ble h.nx s.h.wm && zM h.nx 5 v then some (v,h) else some (v,{s.h with wm:=min h.wm s.h.wm})
  |none=>none
 |_=>none
def zB(env:Env)(orc:FuncId→Option (Vs→Heap→Option (Value×Heap)))(draw:(FuncId→Vs→Heap→Option (Value×Heap))→Nat→List Oper→St→Option St)(L:Nat):
  Nat→FuncId→Vs→Heap→Option (Value×Heap)
 |0=>fun _ _ _=>none
 |n+1=>fun f args h=>
  match orc f with
  |some g=>g args h
  |none=>match env.fn f with
   |some fn=>match fn.body with
    |some c=>if Nat.ble args.length fn.ntmps then zf0 env (zB env orc draw L n) (draw (zB env orc draw L n)) L fn c args h else none
    |none=>none
   |none=>none
end Go.PanE
