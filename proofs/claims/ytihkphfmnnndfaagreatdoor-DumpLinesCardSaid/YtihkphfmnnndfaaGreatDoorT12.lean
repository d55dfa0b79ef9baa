/-
 Part 12 of the proof of Rows.DumpLinesCardSaid. No conditions.
-/
import Derived.Test.YtihkphfmnnndfaaGreatDoorT10
import Derived.Test.YtihkphfmnnndfaaGreatDoorT11
import Derived.Below
import Derived.Lib.SmallJoins
namespace Go.PanE
open Go.Proofs Go.RowKit
section
variable {μ:Loc} {h:Heap} {w u:World}
theorem go_below(R:Rep μ h w)(B:Below w.heap.size w u):Go1 μ h w μ h u:=
 ⟨μ.le_refl,⟨fun b o hb=>by
   obtain⟨p,hp,ho⟩:=R.live b o hb
   exact⟨p,hp,ho.world (B.block _ (R.bound _ _ hp))⟩,R.inj,R.fh,fun b p hp=>nU (R.bound b p hp) B.size,R.glob⟩,
  B.size,fun _ hk _=>hk,fun k hk _=>B.block k hk,B.os,B.output,B.tape,nL_ _,fun _ _=>rfl⟩
theorem uR(R:Rep μ h w){g:Nat}(hg:g < ngl){el:TypeId}{cells:Vs}{ro:Bool}(e:h.get g=some (.row el cells 0 ro)):
  ∃ (arr:Array Value) (fr:Nat×Nat),w.heap[g]? =some (.cells arr el fr)∧zh μ cells arr.toList:=by
 obtain⟨p,hp,ho⟩:=R.live g _ e
 obtain⟨q,hq,h1,h2⟩:=R.glob g hg
 rw[hp] at hq
 simp only[sJ] at hq;subst hq
 obtain⟨arr,fr,ha,hs,_,hz,hx,hl,_⟩:=ho
 rw[h1] at ha
 refine⟨arr,fr,ha,?_⟩
 have hx':=hx.1 rfl
 rw[h2,List.drop_zero,List.take_of_length_le (by rw[Array.length_toList,hz,h2,hx'];omega)] at hl
 exact hl
def yA(k:IntKind):List Int→Vs
 |[]=>[]
 |z::l=>.int k z::yA k l
theorem zmn{k:IntKind}:∀ (zs:List Int) (l:Vs),zh μ (yA k zs) l→l=zs.map fun z=>Value.int k z:=by
 intro zs
 induction zs with
 |nil=>
  intro l hl
  have:=hl.1
  simp only[yA,lN] at this
  simpa using(List.length_eq_zero_iff.1 this.symm)
 |cons z zs ih=>
  intro l hl
  obtain⟨h1,h2⟩:=hl
  cases l with
  |nil=>simp[yA] at h1
  |cons x l=>
   have hx:=h2 0 (.int k z) x rfl rfl
   cases hx
   rw[ih l ⟨by simpa[yA] using h1,fun i a b ha hb=>h2 (i+1) a b (by simpa[yA] using ha) (by simpa using hb)⟩]
   rfl
theorem zh.one{a:Value}{l:Vs}(h:zh μ [a] l):∃ a',l=[a']∧VRel μ a a':=by
 obtain⟨h1,h2⟩:=h
 match l,h1 with
 |[x],_=>exact⟨x,rfl,h2 0 a x rfl rfl⟩
theorem zh.three{a b c:Value}{l:Vs}(h:zh μ [a,b,c] l):∃ a' b' c',l=[a',b',c']∧VRel μ a a'∧VRel μ b b'∧VRel μ c c':=by
 obtain⟨h1,h2⟩:=h
 match l,h1 with
 |[x,y,z],_=>exact⟨x,y,z,rfl,h2 0 a x rfl rfl,h2 1 b y rfl rfl,h2 2 c z rfl rfl⟩
theorem zdT{l:Vs}(h:l.all zb3=true):VRel μ (.tuple ⟨l⟩) (.tuple ⟨l⟩):=by
 refine .tuple _ _ rfl (fun i x x' h1 h2=>?_)
 rw[h1] at h2
 simp only[sJ] at h2;subst h2
 exact plainV_rel (List.all_eq_true.1 h x (by simpa using Array.mem_toList_iff.2 (Array.mem_of_getElem? h1)))
end
def zjB(args:Vs)(h:Heap):Option (Value×Heap):=
 match args with
 |[.string s,.string p]=>match h.get 2 with
  |some (.row _ [.int .i64 _] 0 _)=>bif Nat.blt s.size 4294967281 then
    some (.tuple ⟨[.string ⟨(Lib.cut s.data.toList p.data.toList).1.toArray⟩,.string ⟨(Lib.cut s.data.toList p.data.toList).2.1.toArray⟩,.bool (Lib.cut s.data.toList p.data.toList).2.2]⟩,h) else none
  |_=>none
 |_=>none
def zb4(args:Vs)(h:Heap):Option (Value×Heap):=
 match args with
 |[.string s,.string p,.string q]=>match h.get 2 with
  |some (.row _ [.int .i64 _] 0 _)=>bif Nat.blt s.size 4294967281 && Nat.ble 1 p.size && Nat.ble q.size 1000 then
    some (.string ⟨(Lib.replaceAll s.data.toList p.data.toList q.data.toList).toArray⟩,h) else none
  |_=>none
 |_=>none
theorem zlo{args:Vs}{h h':Heap}{v:Value}(e:zb4 args h=some (v,h')):Keep h h'∧∀ (μ:Loc) (w:World) (args':Vs),Rep μ h w→zh μ args args'→
  Calls Tryz.prog 216 ⟨args'⟩ w fun e u=>∃ ν v',e= .returned v'∧Go1 μ h w ν h' u∧VRel ν v v':=by
 unfold zb4 at e
 split at e
 ·rename_i s p q
  split at e
  ·rename_i el m ro hg
   cases hb:(Nat.blt s.size 4294967281 && Nat.ble 1 p.size && Nat.ble q.size 1000) with
   |false=>rw[hb] at e;simp at e
   |true=>
    rw[hb] at e
    simp only[cond_true,sJ,pJ] at e
    obtain⟨rfl,rfl⟩:=e
    simp only[bA,Nat.blt_eq,Nat.ble_eq] at hb
    refine⟨Keep.refl _,fun μ w args' R hl=>?_⟩
    obtain⟨a',b',c',rfl,ra,rb,rc⟩:=hl.three
    cases ra;cases rb;cases rc
    obtain⟨arr,fr,ha,hr⟩:=uR R (g:=2) (by decide) hg
    obtain⟨x,hx,rx⟩:=hr.one
    cases rx
    have hm:w.cell? ⟨2,0,none⟩=some (.int .i64 m):=by
     simp only[World.cell?,ha,Option.isSome_none,Bool.false_eq_true,if_false]
     rw[← Array.getElem?_toList,hx];rfl
    have hc:=Lib.countB_le p hb.1.2 s.size s (nL_ _)
    have hp:=Nat.mul_le_mul hc hb.2
    refine(Tryz.strings_ReplaceAll s p q m w hb.1.1 hm hb.1.2 (by omega)).mono ?_
    rintro e u ⟨rfl,B⟩
    exact⟨μ,_,rfl,go_below R B,.str _⟩
  ·simp at e
 ·simp at e
def zcO(h:Heap)(n:Int):Option (Value×Heap):=
 match h.get 3 with
 |some (.row _ cs 0 _)=>bif (List.range 20).all (fun i=>match cs[i]? with|some (.int .u64 z)=>z==((10 ^ i:Nat):Int)|_=>false) && Nat.beq cs.length 20 && decide (-9223372036854775808≤n) && decide (n≤9223372036854775807) then
   some (.string ⟨(Lib.itoa n).toArray⟩,h) else none
 |_=>none
def zdW(args:Vs)(h:Heap):Option (Value×Heap):=
 match args with
 |[.int .i64 n]=>zcO h n
 |_=>none
def zdV(args:Vs)(h:Heap):Option (Value×Heap):=
 match args with
 |[.int .i64 n,.int .i64 10]=>zcO h n
 |_=>none
theorem znF{args:Vs}{h h':Heap}{v:Value}(e:zjB args h=some (v,h')):Keep h h'∧∀ (μ:Loc) (w:World) (args':Vs),Rep μ h w→zh μ args args'→
  Calls Tryz.prog 27 ⟨args'⟩ w fun e u=>∃ ν v',e= .returned v'∧Go1 μ h w ν h' u∧VRel ν v v':=by
 unfold zjB at e
 split at e
 ·rename_i s p
  split at e
  ·rename_i el m ro hg
   cases hb:Nat.blt s.size 4294967281 with
   |false=>rw[hb] at e;simp at e
   |true=>
    rw[hb] at e
    simp only[cond_true,sJ,pJ] at e
    obtain⟨rfl,rfl⟩:=e
    refine⟨Keep.refl _,fun μ w args' R hl=>?_⟩
    obtain⟨a',b',rfl,ra,rb⟩:=hl.two
    cases ra;cases rb
    obtain⟨arr,fr,ha,hr⟩:=uR R (g:=2) (by decide) hg
    obtain⟨x,hx,rx⟩:=hr.one
    cases rx
    have hm:w.cell? ⟨2,0,none⟩=some (.int .i64 m):=by
     simp only[World.cell?,ha,Option.isSome_none,Bool.false_eq_true,if_false]
     rw[← Array.getElem?_toList,hx];rfl
    refine(Tryz.strings_Cut s p m w (by simpa using hb) hm).mono ?_
    rintro e u ⟨rfl,n,rfl⟩
    exact⟨μ,_,rfl,go_below R ⟨rfl,rfl,rfl,nL_ _,fun _ _=>rfl⟩,zdT rfl⟩
  ·simp at e
 ·simp at e
theorem zma{h h':Heap}{v:Value}{n:Int}(e:zcO h n=some (v,h')):h'=h∧v= .string ⟨(Lib.itoa n).toArray⟩∧-9223372036854775808≤n∧n≤9223372036854775807∧
  ∀ (μ:Loc) (w:World),Rep μ h w→Lib.TabIs Tryz.prog w "internal/strconv.uint64pow10" .u64 Lib.pow10Tab:=by
 unfold zcO at e
 split at e
 ·rename_i el cs ro hg
  cases hb:((List.range 20).all (fun i=>match cs[i]? with|some (.int .u64 z)=>z==((10 ^ i:Nat):Int)|_=>false) && Nat.beq cs.length 20 && decide (-9223372036854775808≤n) && decide (n≤9223372036854775807)) with
  |false=>rw[hb] at e;simp at e
  |true=>
   rw[hb] at e
   simp only[cond_true,sJ,pJ] at e
   simp only[bA,decide_eq_true_eq] at hb
   obtain⟨⟨⟨h1,h2⟩,h3⟩,h4⟩:=hb
   refine⟨e.2.symm,e.1.symm,h3,h4,fun μ w R=>?_⟩
   obtain⟨arr,fr,ha,hr⟩:=uR R (g:=3) (by decide) hg
   have hcs:cs=yA .u64 Lib.pow10Tab:=by
    have hlen:=nB_ h2
    have key:∀ i,i < 20→cs[i]? =some (.int .u64 ((10 ^ i:Nat):Int)):=by
     intro i hi
     have:=List.all_eq_true.1 h1 i (List.mem_range.2 hi)
     split at this
     ·rename_i z hz
      rw[hz]
      have:z=((10 ^ i:Nat):Int):=by simpa using this
      rw[this]
     ·simp at this
    have hI:yA .u64 Lib.pow10Tab=(List.range 20).map fun i=>Value.int .u64 ((10 ^ i:Nat):Int):=by rfl
    rw[hI]
    apply List.ext_getElem?
    intro i
    by_cases hi:i < 20
    ·rw[key i hi,List.getElem?_map,List.getElem?_range hi];rfl
    ·rw[List.getElem?_eq_none (by omega),List.getElem?_eq_none (by simp;omega)]
   rw[hcs] at hr
   have ht:=zmn _ _ hr
   unfold Lib.TabIs World.var?
   have hn:Tryz.prog.globalNamed "internal/strconv.uint64pow10" =some 3:=by kernel_rfl
   rw[hn]
   simp only[Option.bind_some,ha]
   rw[← ht]
 ·simp at e
theorem znD{args:Vs}{h h':Heap}{v:Value}(e:zdW args h=some (v,h')):Keep h h'∧∀ (μ:Loc) (w:World) (args':Vs),Rep μ h w→zh μ args args'→
  Calls Tryz.prog 43 ⟨args'⟩ w fun e u=>∃ ν v',e= .returned v'∧Go1 μ h w ν h' u∧VRel ν v v':=by
 unfold zdW at e
 split at e
 ·rename_i n
  obtain⟨rfl,rfl,h1,h2,ht⟩:=zma e
  refine⟨Keep.refl _,fun μ w args' R hl=>?_⟩
  obtain⟨a',rfl,ra⟩:=hl.one
  cases ra
  refine(Tryz.strconv_Itoa n h1 h2 w (ht μ w R)).mono ?_
  rintro e u ⟨rfl,k,os,rfl⟩
  exact⟨μ,_,rfl,go_below R ⟨rfl,rfl,rfl,by simp[«Sort».grow,World.drewN],fun k hk=>by simp[«Sort».grow,World.drewN,Array.getElem?_append_left hk]⟩,.str _⟩
 ·simp at e
theorem znC{args:Vs}{h h':Heap}{v:Value}(e:zdV args h=some (v,h')):Keep h h'∧∀ (μ:Loc) (w:World) (args':Vs),Rep μ h w→zh μ args args'→
  Calls Tryz.prog 70 ⟨args'⟩ w fun e u=>∃ ν v',e= .returned v'∧Go1 μ h w ν h' u∧VRel ν v v':=by
 unfold zdV at e
 split at e
 ·rename_i n
  obtain⟨rfl,rfl,h1,h2,ht⟩:=zma e
  refine⟨Keep.refl _,fun μ w args' R hl=>?_⟩
  obtain⟨a',b',rfl,ra,rb⟩:=hl.two
  cases ra;cases rb
  refine(Tryz.strconv_FormatInt_10 n h1 h2 w (ht μ w R)).mono ?_
  rintro e u ⟨rfl,k,os,rfl⟩
  exact⟨μ,_,rfl,go_below R ⟨rfl,rfl,rfl,by simp[«Sort».grow,World.drewN],fun k hk=>by simp[«Sort».grow,World.drewN,Array.getElem?_append_left hk]⟩,.str _⟩
 ·simp at e
theorem zeU{μ:Loc}{h:Heap}{w u:World}(R:Rep μ h w)(B:Below w.heap.size w u){p:Place}(h2:p.pb < u.heap.size):Go1 μ h w (μ.upd h.nx p) (zd 1 h) u:=by
 have hle:μ.le (μ.upd h.nx p):=jF (R.fh _ (nL_ _))
 have G:=go_below R B
 obtain⟨r1,r2,r3⟩:=wY 1 h
 have old:∀ b o,(zd 1 h).get b=some o→b < h.nx∧h.get b=some o:=by
  intro b o hb
  rw[r3] at hb
  split at hb
  ·rename_i hlt;exact⟨hlt,hb⟩
  ·simp at hb
 refine⟨hle,⟨?_,?_,?_,?_,R.glob.mono hle⟩,B.size,?_,fun k hk _=>B.block k hk,B.os,B.output,B.tape,by rw[r1];omega,fun b hb=>zq _ _ _ _ (by omega)⟩
 ·intro b o hb
  obtain⟨hlt,hb⟩:=old b o hb
  obtain⟨q,hq,ho⟩:=G.rep.live b o hb
  exact⟨q,hle _ _ hq,ho.mono hle⟩
 ·intro b b' o o' q q' hb hb' hq hq'
  obtain⟨hlt,hb⟩:=old b o hb
  obtain⟨hlt',hb'⟩:=old b' o' hb'
  rw[zq _ _ _ _ (by omega)] at hq hq'
  exact R.inj b b' o o' q q' hb hb' hq hq'
 ·intro b hb
  rw[r1] at hb
  rw[zq _ _ _ _ (by omega)]
  exact R.fh b (by omega)
 ·intro b q hq
  by_cases e:b=h.nx
  ·rw[e,zC] at hq
   simp only[sJ] at hq;subst hq;exact h2
  ·rw[zq _ _ _ _ e] at hq
   exact nU (R.bound b q hq) B.size
 ·rintro k ⟨b,o,q,hb,hq,rfl⟩ _
  obtain⟨hlt,hb⟩:=old b o hb
  rw[zq _ _ _ _ (by omega)] at hq
  exact⟨b,o,q,hb,hq,rfl⟩
theorem zan(n:Nat)(h:Heap):Keep h (zd n h):=by
 obtain⟨r1,r2,r3⟩:=wY n h
 exact⟨by rw[r1];omega,by rw[r2];exact nL_ _,fun b hb _=>by rw[r3,if_pos hb],fun b hb e=>by rw[r3,if_pos hb];exact e⟩
def vH(args:Vs)(h:Heap):Option (Value×Heap):=
 match args with
 |[.string s,.int .i64 10,.int .i64 64]=>
  bif Nat.ble s.size 281474976710656 then
   match Lib.parseIntB 64 s.data.toList with
   | .ok v=>some (.tuple ⟨[.int .i64 v,.nilIface]⟩,h)
   | .range=>match h.get 5 with
    |some (.row _ [.iface _ _] 0 _)=>some (.tuple ⟨[.int .i64 (Lib.intSat 64 s.data.toList),.iface 279 (.pointer (some ⟨h.nx,0,none⟩))]⟩,zd 1 h)
    |_=>none
   |_=>match h.get 4 with
    |some (.row _ [.iface _ _] 0 _)=>some (.tuple ⟨[.int .i64 0,.iface 279 (.pointer (some ⟨h.nx,0,none⟩))]⟩,zd 1 h)
    |_=>none
  else none
 |_=>none
theorem zij{μ:Loc}{n:Int}{b:Nat}{p:Place}(hp:μ b=some p)(h0:p.po=0):VRel μ (.tuple ⟨[.int .i64 n,.iface 279 (.pointer (some ⟨b,0,none⟩))]⟩) (.tuple ⟨[.int .i64 n,.iface 279 (.pointer (some ⟨p.pb,0,none⟩))]⟩):=by
 refine .tuple _ _ rfl (fun i x x' h1 h2=>?_)
 have h1:[Value.int .i64 n,.iface 279 (.pointer (some ⟨b,0,none⟩))][i]? =some x:=by simpa using h1
 have h2:[Value.int .i64 n,.iface 279 (.pointer (some ⟨p.pb,0,none⟩))][i]? =some x':=by simpa using h2
 match i with
 |0=>
  simp only[List.getElem?_cons_zero,sJ] at h1 h2;subst h1;subst h2
  exact .int _ _
 |1=>
  simp only[List.getElem?_cons_succ,List.getElem?_cons_zero,sJ] at h1 h2;subst h1;subst h2
  refine .iface _ _ _ ?_
  have:=VRel.ptr (μ:=μ) b 0 p hp
  rw[h0] at this
  exact this
 |i+2=>simp at h1
theorem zcR{w:World}{k:Nat}{o:Obj}(h:w.heap[k]? =some o):k < w.heap.size:=by
 rcases Nat.lt_or_ge k w.heap.size with hlt|hge
 ·exact hlt
 ·rw[Array.getElem?_eq_none hge] at h;simp at h
theorem zlr{args:Vs}{h h':Heap}{v:Value}(e:vH args h=some (v,h')):Keep h h'∧∀ (μ:Loc) (w:World) (args':Vs),Rep μ h w→zh μ args args'→
  Calls Tryz.prog 106 ⟨args'⟩ w fun e u=>∃ ν v',e= .returned v'∧Go1 μ h w ν h' u∧VRel ν v v':=by
 unfold vH at e
 split at e
 ·rename_i s
  cases hb:Nat.ble s.size 281474976710656 with
  |false=>rw[hb] at e;simp at e
  |true=>
   rw[hb] at e
   simp only[cond_true] at e
   have hsz:s.size≤281474976710656:=Nat.le_of_ble_eq_true hb
   have args3:∀ {μ:Loc} {args':Vs},zh μ [.string s,.int .i64 10,.int .i64 64] args'→args'=[.string s,.int .i64 10,.int .i64 64]:=by
    intro μ args' hl
    obtain⟨a',b',c',rfl,ra,rb,rc⟩:=hl.three
    cases ra;cases rb;cases rc;rfl
   split at e
   ·rename_i v0 hp
    simp only[sJ,pJ] at e
    obtain⟨rfl,rfl⟩:=e
    refine⟨Keep.refl _,fun μ w args' R hl=>?_⟩
    rw[args3 hl]
    refine(Tryz.strconv_ParseInt_10_at64_ok s (by omega) v0 hp w).mono ?_
    rintro e u ⟨rfl,hu⟩
    refine⟨μ,_,rfl,go_below R ?_,zdT rfl⟩
    rcases hu with rfl|⟨t,rfl⟩
    ·exact Below.refl _ _
    ·exact Joins.below_bytesWorld _ w 5 t (nL_ _)
   ·rename_i hp
    split at e
    ·rename_i el tp p ro hg
     simp only[sJ,pJ] at e
     obtain⟨rfl,rfl⟩:=e
     refine⟨zan 1 h,fun μ w args' R hl=>?_⟩
     rw[args3 hl]
     obtain⟨arr,fr,ha,hr⟩:=uR R (g:=5) (by decide) hg
     obtain⟨x,hx,rx⟩:=hr.one
     cases rx with
     |iface _ _ p' _=>
      have hvar:w.var? Tryz.prog "strconv.ErrRange" =some #[.iface tp p']:=by
       unfold World.var?
       rw[show Tryz.prog.globalNamed "strconv.ErrRange" =some 5 by kernel_rfl]
       simp only[Option.bind_some,ha]
       congr 1
       apply Array.ext'
       rw[hx]
      refine(Tryz.strconv_ParseInt_10_at64_range_var s hsz hp tp p' w hvar).mono ?_
      rintro e u ⟨N,rfl,_,hblk,hB⟩
      exact⟨μ.upd h.nx ⟨N,0,0,0,0,none⟩,_,rfl,zeU R hB (zcR hblk),zij (p:=⟨N,0,0,0,0,none⟩) (zC _ _ _) rfl⟩
    ·simp at e
   ·rename_i hn1 hn2
    have hp:Lib.parseIntB 64 s.data.toList=Lib.parseIntB 64 []:=by
     cases hq:Lib.parseIntB 64 s.data.toList with
     |ok v=>exact absurd hq (hn1 v)
     |range=>exact absurd hq hn2
     |_=>rfl
    split at e
    ·rename_i el tp p ro hg
     simp only[sJ,pJ] at e
     obtain⟨rfl,rfl⟩:=e
     refine⟨zan 1 h,fun μ w args' R hl=>?_⟩
     rw[args3 hl]
     obtain⟨arr,fr,ha,hr⟩:=uR R (g:=4) (by decide) hg
     obtain⟨x,hx,rx⟩:=hr.one
     cases rx with
     |iface _ _ p' _=>
      have hvar:w.var? Tryz.prog "strconv.ErrSyntax" =some #[.iface tp p']:=by
       unfold World.var?
       rw[show Tryz.prog.globalNamed "strconv.ErrSyntax" =some 4 by kernel_rfl]
       simp only[Option.bind_some,ha]
       congr 1
       apply Array.ext'
       rw[hx]
      refine(Tryz.strconv_ParseInt_10_at64_syntax_var s hsz hp tp p' w hvar).mono ?_
      rintro e u ⟨N,rfl,_,hblk,hB⟩
      exact⟨μ.upd h.nx ⟨N,0,0,0,0,none⟩,_,rfl,zeU R hB (zcR hblk),zij (p:=⟨N,0,0,0,0,none⟩) (zC _ _ _) rfl⟩
    ·simp at e
 ·simp at e
end Go.PanE
