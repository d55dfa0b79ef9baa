/-
 Part 46 of the proof of Rows.DumpReadsCardSaid: The memory at the start says what the world holds; what the run leaves.
 No conditions.
-/
import Derived.Test.YtihkphfmnnndfaaGreatDoorT44
import Derived.Test.YtihkphfmnnndfaaGreatDoorT45
namespace Go.PanE
open Go.Proofs Go.Proofs.YtihkphfmnnndfaaGreatDoor
def plc(b1 o1 b4 o4 b5 o5:Nat):List Place:=[⟨0,0,1,0,0⟩,⟨1,0,1,0,0⟩,⟨2,0,1,0,0⟩,⟨3,0,20,0,0⟩,⟨4,0,1,0,0⟩,⟨5,0,1,0,0⟩,⟨6,0,0,0,0⟩,⟨7,0,0,0,0⟩,⟨8,0,0,0,0⟩,⟨9,0,0,0,0⟩,⟨10,0,0,0,0⟩,⟨b1,o1,0,0,0⟩,⟨b4,o4,0,0,0⟩,⟨b5,o5,0,0,0⟩]
def mu0(b1 o1 b4 o4 b5 o5:Nat):Loc:=fun b=>(plc b1 o1 b4 o4 b5 o5)[b]?
theorem lrel_ints(μ:Loc)(l:List Int):LRel μ (l.map (Value.int .u64)) (l.map (Value.int .u64)):=by
 induction l with
 |nil=>exact .nil
 |cons x l ih=>exact .cons (.int _ _) ih
theorem pows_eq:pows=((List.range 20).map fun i=>((10 ^ i:Nat):Int)).map (Value.int .u64):=by
 unfold pows
 rw[List.map_map]
 rfl
theorem lrel_1{μ:Loc}{x y:Value}(h:VRel μ x y):LRel μ [x] [y]:=.cons h .nil
section
variable {W:World} {m:Int} {b1 o1 b4 o4 b5 o5:Nat}
theorem obj_low{b:Nat}{o:AObj}(h:(h0 m).get b=some o):b < 6∧o= .row (elem0 b) (objs0 m b) 0 true:=by
 rw[h0_get] at h
 split at h
 ·cases h;exact⟨by assumption,rfl⟩
 ·cases h
theorem mu0_pb{b:Nat}{p:Place}(hb:b < 6)(h:mu0 b1 o1 b4 o4 b5 o5 b=some p):p.pb=b∧p.po=0:=by
 match b,hb with
 |0,_=>cases h;exact⟨rfl,rfl⟩
 |1,_=>cases h;exact⟨rfl,rfl⟩
 |2,_=>cases h;exact⟨rfl,rfl⟩
 |3,_=>cases h;exact⟨rfl,rfl⟩
 |4,_=>cases h;exact⟨rfl,rfl⟩
 |5,_=>cases h;exact⟨rfl,rfl⟩
theorem rep_start(S:Start W m b1 o1 b4 o4 b5 o5):Rep (mu0 b1 o1 b4 o4 b5 o5) (h0 m) W:=by
 refine⟨?_,?_,?_,?_,?_⟩
 ·intro b o hb
  obtain⟨hlt,rfl⟩:=obj_low hb
  match b,hlt with
  |0,_=>exact⟨⟨0,0,1,0,0⟩,rfl,_,(0,0),S.v0,rfl,rfl,rfl,⟨fun _=>rfl,fun h=>by cases h⟩,lrel_1 (.iface _ _ _ (.agg _ _ rfl fun i x x' h h'=>by
    match i with
    |0=>cases h;cases h';exact .ptr 10 84 ⟨10,0,0,0,0⟩ rfl
    |i+1=>simp at h)),⟨fun h=>by(cases h),fun _ _=>rfl⟩⟩
  |1,_=>exact⟨⟨1,0,1,0,0⟩,rfl,_,(0,0),S.v1,rfl,rfl,rfl,⟨fun _=>rfl,fun h=>by cases h⟩,lrel_1 (.iface _ _ _ (.ptr 11 0 ⟨b1,o1,0,0,0⟩ rfl)),⟨fun h=>by(cases h),fun _ _=>rfl⟩⟩
  |2,_=>exact⟨⟨2,0,1,0,0⟩,rfl,_,(0,0),S.v2,rfl,rfl,rfl,⟨fun _=>rfl,fun h=>by cases h⟩,lrel_1 (.int _ _),⟨fun h=>by(cases h),fun _ _=>rfl⟩⟩
  |3,_=>
   refine⟨⟨3,0,20,0,0⟩,rfl,_,(0,0),S.v3,rfl,rfl,rfl,⟨fun _=>rfl,fun h=>by cases h⟩,?_,⟨fun h=>by(cases h),fun _ _=>rfl⟩⟩
   show LRel _ pows (List.take 20 (List.drop 0 pows))
   rw[List.drop_zero,List.take_of_length_le (by show 20≤20;exact Nat.le_refl _),pows_eq]
   exact lrel_ints _ _
  |4,_=>exact⟨⟨4,0,1,0,0⟩,rfl,_,(0,0),S.v4,rfl,rfl,rfl,⟨fun _=>rfl,fun h=>by cases h⟩,lrel_1 (.iface _ _ _ (.ptr 12 0 ⟨b4,o4,0,0,0⟩ rfl)),⟨fun h=>by(cases h),fun _ _=>rfl⟩⟩
  |5,_=>exact⟨⟨5,0,1,0,0⟩,rfl,_,(0,0),S.v5,rfl,rfl,rfl,⟨fun _=>rfl,fun h=>by cases h⟩,lrel_1 (.iface _ _ _ (.ptr 13 0 ⟨b5,o5,0,0,0⟩ rfl)),⟨fun h=>by(cases h),fun _ _=>rfl⟩⟩
 ·intro b b' o o' p p' hb hb' hp hp' hpb
  have h1:=(mu0_pb (obj_low hb).1 hp).1
  have h2:=(mu0_pb (obj_low hb').1 hp').1
  omega
 ·intro b hb
  have hb:14≤b:=hb
  exact List.getElem?_eq_none (by show 14≤b;exact hb)
 ·intro b p hp
  have hm:=List.mem_of_getElem? hp
  have h1:=S.sz
  have h2:=S.l1
  have h3:=S.l4
  have h4:=S.l5
  simp only[plc,List.mem_cons,List.not_mem_nil,or_false] at hm
  rcases hm with rfl|rfl|rfl|rfl|rfl|rfl|rfl|rfl|rfl|rfl|rfl|rfl|rfl|rfl <;>simp only <;>omega
 ·intro g hg
  have hg:g < 11:=hg
  match g,hg with
  |0,_|1,_|2,_|3,_|4,_|5,_|6,_|7,_|8,_|9,_|10,_=>exact⟨_,rfl,rfl,rfl⟩
theorem ptr_one{μ:Loc}{l:List Value}{k b o:Nat}(h:LRel μ [.iface 309 (.pointer (some ⟨k,0,none⟩))] l)(hk:μ k=some ⟨b,o,0,0,0⟩):l=[.iface 309 (.pointer (some ⟨b,o,none⟩))]:=by
 obtain⟨x,rfl,rx⟩:=h.one
 cases rx with
 |iface _ _ v' rv=>
  cases rv with
  |ptr _ _ p hp=>rw[hk] at hp;cases hp;rfl
/-- A row that nobody writes holds the same. -/
theorem same_row{μ:Loc}{u:World}{b:Nat}{el:TypeId}{cells:List Value}{arr:Array Value}{sz:Nat}(R:Rep μ (h0 m) u)(hg:(h0 m).get b=some (.row el cells 0 true))(hp:μ b=some ⟨b,0,sz,0,0⟩)(hel:el≠5)
  (hu:∀ l,LRel μ cells l→l=arr.toList):u.heap[b]? =some (.cells arr el (0,0)):=by
 obtain⟨p,hp',arr',fr,a1,a2,a3,a4,a5,a6,a7⟩:=R.live b _ hg
 rw[hp] at hp'
 cases hp'
 have hfr:=a7.2 rfl hel
 have hs:arr'.toList=arr.toList:=by
  have:=hu _ a6
  rw[← this]
  show arr'.toList=List.take sz (List.drop 0 arr'.toList)
  rw[List.drop_zero,List.take_of_length_le]
  have:arr'.size=0+sz+0:=a4
  simp
  omega
 rw[a1,hfr,Array.toList_inj.1 hs]
theorem same_heap{u:World}{ν:Loc}{h':Heap}(S:Start W m b1 o1 b4 o4 b5 o5)(G:Go1 (mu0 b1 o1 b4 o4 b5 o5) (h0 m) W ν h' u)(hk:∀ b,b < 14→h'.get b=(h0 m).get b):∀ i,i < W.heap.size→u.heap[i]? =W.heap[i]? :=by
 have R:=rep_start S
 have R':=(go_restore R G hk).rep
 intro i hi
 by_cases ho:Own (mu0 b1 o1 b4 o4 b5 o5) (h0 m) i
 ·obtain⟨b,o,p,hb,hp,rfl⟩:=ho
  obtain⟨hlt,rfl⟩:=obj_low hb
  rw[(mu0_pb hlt hp).1]
  match b,hlt with
  |0,_=>
   refine(same_row (sz:=1) R' hb rfl (by decide) fun l hl=>?_).trans S.v0.symm
   obtain⟨x,rfl,rx⟩:=hl.one
   cases rx with
   |iface _ _ v' rv=>
    cases rv with
    |agg _ ys h1 h2=>
     obtain⟨ys⟩:=ys
     match ys,h1 with
     |[y],_=>
      have:=h2 0 _ y rfl rfl
      cases this with
      |ptr _ _ p hp=>cases hp;rfl
  |1,_=>exact(same_row (sz:=1) R' hb rfl (by decide) fun l hl=>ptr_one hl rfl).trans S.v1.symm
  |2,_=>
   refine(same_row (sz:=1) R' hb rfl (by decide) fun l hl=>?_).trans S.v2.symm
   obtain⟨x,rfl,rx⟩:=hl.one
   cases rx
   rfl
  |3,_=>
   refine(same_row (sz:=20) R' hb rfl (by decide) fun l hl=>?_).trans S.v3.symm
   have hl:LRel _ pows l:=hl
   rw[pows_eq] at hl
   have:=LRel.ints (k:=.u64) ((List.range 20).map fun i=>((10 ^ i:Nat):Int)) l (by unfold intsOf;exact hl)
   rw[this,List.map_map]
   rfl
  |4,_=>exact(same_row (sz:=1) R' hb rfl (by decide) fun l hl=>ptr_one hl rfl).trans S.v4.symm
  |5,_=>exact(same_row (sz:=1) R' hb rfl (by decide) fun l hl=>ptr_one hl rfl).trans S.v5.symm
 ·exact G.frame i hi ho
/-- The call at the start. -/
theorem call4(S:Start W m b1 o1 b4 o4 b5 o5)(s:ByteArray):Calls Tryz.prog 4 #[.string s] W fun e u=>e= .returned (.bool true)∧u.os=W.os∧u.output=W.output∧∀ i,i < W.heap.size→u.heap[i]? =W.heap[i]? :=by
 have G0:Gl m (h0 m):=⟨Nat.le_refl _,fun _ _=>rfl⟩
 obtain⟨h',e,K⟩:=dumpReads s (h0 m) 1600 (by omega) G0
 refine((callsD 5000 1600).1 4 _ _ _ _ e _ W [.string s] (rep_start S) (lrel_1 (.str s))).mono ?_
 rintro ev u ⟨ν,v',rfl,G,rv⟩
 cases rv
 exact⟨rfl,G.os,G.out,same_heap S G K.get⟩
end
end Go.PanE
