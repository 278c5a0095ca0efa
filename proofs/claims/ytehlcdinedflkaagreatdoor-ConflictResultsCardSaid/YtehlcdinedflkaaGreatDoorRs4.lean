/-
  A part of the proof: the machine, the contracts of the functions and the plain laws, merged from smaller texts.
-/
import Derived.Test.YtehlcdinedflkaaGreatDoorRs3
import Derived.RangeFuncLeaves
import Derived.RangeFuncSeq
import Derived.RangeFuncRecord
import Derived.Shelf.Abstract
import Derived.WalkKit
import Derived.OwnWalkIn
import Derived.TacticsInMore
import Derived.LoopNIn
import Derived.LoopIn
import Derived.Test.YtehlcdinedflkaaGreatDoorProg
set_option linter.unusedVariables false
set_option linter.unusedSimpArgs false
set_option linter.unusedSectionVars false
section
set_option maxRecDepth 20000
namespace Go.Eng
open Go Go.Proofs Go.IntWalk
def c39:ICode:=
 (.seq (.reg [qq 4 (.alloc 65 3 [(.int .i64 0),(.slice none 0 0),(.slice none 0 0)])]) (.seq (.reg [qq 19 (.mv (.t 0)),qq 20 (.build [(.int .i64 0),(.slice none 0 0),(.slice none 0 0)] [(0,1,(.t 19))]),qq 5 (.alloc 65 3 [(.int .i64 0),(.slice none 0 0),(.slice none 0 0)]),qn (.store 3 (.t 5) (.t 20))]) (.seq (.seq (.reg [qq 21 (.mv (.t 1)),qq 22 (.lensl (.t 21)),qq 23 (.mv (ci 0))]) (.block 0 (.loop (.seq (.reg [qq 24 (.bin .lss (.t 23) (.t 22))]) (.seq (.cond (.t 24) .skip (.exit 0)) (.seq (.block 1 (.seq (.reg [qq 25 (.ixsl 5 (.t 21) (.t 23)),qq 26 (.load true 5 (.t 25)),qq 7 (.alloc 40 5 [(.slice none 0 0),(.bool false),e0,e0,(.int .i64 0)]),qn (.store 5 (.t 7) (.t 26))]) (.seq (.reg [qq 27 (.mv (.t 0)),qq 28 (.bin .add (.t 27) (ci 1)),qq 29 (.mkslice 38 3 40 [(.bool false),e0,e0] (ci 0) (.t 28)),qq 8 (.mv (.t 29))]) (.seq (.seq (.dreg [qu 30 (.faddr 0 (.t 7)),qu 31 (.load false 1 (.t 30)),qu 32 (.call 59 [(.t 31)]),qu 33 (.faddr 1 (.t 7)),qv 34 [2] (.load true 3 (.t 33)),qu 35 (.bslice 38 3 1 [(.bool false),e0,e0] [(0,3,(.t 34))]),qu 36 (.app 38 3 40 (.t 32) (.t 35)),qu 37 (.lensl (.t 36)),qu 38 (.mv (ci 0))]) (.block 2 (.loop (.seq (.reg [qq 39 (.bin .lss (.t 38) (.t 37))]) (.seq (.cond (.t 39) .skip (.exit 2)) (.seq (.block 3 (.seq (.reg [qq 40 (.ixsl 3 (.t 36) (.t 38)),qq 41 (.load true 3 (.t 40)),qq 10 (.alloc 38 3 [(.bool false),e0,e0]),qn (.store 3 (.t 10) (.t 41))]) (.reg [qq 42 (.mv (.t 8)),qq 43 (.load true 3 (.t 10)),qq 44 (.call 60 [(.t 43)]),qq 45 (.bslice 38 3 1 [(.bool false),e0,e0] [(0,3,(.t 44))]),qq 46 (.app 38 3 40 (.t 42) (.t 45)),qq 8 (.mv (.t 46))]))) (.reg [qq 47 (.bin .add (.t 38) (ci 1)),qq 38 (.mv (.t 47))]))))))) (.reg [qq 48 (.faddr 1 (.t 5)),qq 49 (.load false 1 (.t 48)),qq 50 (.mv (.t 8)),qq 51 (.bslice 30 1 1 [(.slice none 0 0)] [(0,1,(.t 50))]),qq 52 (.app 30 1 24 (.t 49) (.t 51)),qq 53 (.faddr 1 (.t 5)),qn (.store 1 (.t 53) (.t 52))]))))) (.reg [qq 54 (.bin .add (.t 23) (ci 1)),qq 23 (.mv (.t 54))]))))))) (.seq (.seq (.reg [qq 55 (.mv (.t 0)),qq 56 (.mv (ci 0))]) (.block 4 (.loop (.seq (.reg [qq 57 (.bin .lss (.t 56) (.t 55))]) (.seq (.cond (.t 57) .skip (.exit 4)) (.seq (.block 5 (.seq (.reg [qq 58 (.mv (.t 56)),qq 11 (.alloc 3 1 [(.int .i64 0)]),qn (.store 1 (.t 11) (.t 58))]) (.seq (.reg [qq 59 (.faddr 2 (.t 5)),qq 60 (.load false 1 (.t 59)),qq 61 (.lensl (.t 60)),qq 12 (.mv (.t 61))]) (.seq (.reg [qq 62 (.faddr 1 (.t 5)),qq 63 (.load false 1 (.t 62)),qq 64 (.mv (.t 12)),qq 65 (.slsl 1 (.t 63) (some (.t 64)) none),qq 66 (.mkfn 62 [(.t 11)]),qq 67 (.call 61 [(.t 65),(.t 66)]),qq 13 (.mv (.t 67))]) (.seq (.seq (.reg [qq 68 (.mv (.t 13)),qq 69 (.bin .lss (.t 68) (ci 0))]) (.cond (.t 69) (.exit 5) .skip)) (.seq (.dreg [qu 70 (.faddr 1 (.t 5)),qu 71 (.load false 1 (.t 70)),qu 72 (.mv (.t 12)),qu 73 (.faddr 1 (.t 5)),qu 74 (.load false 1 (.t 73)),qu 75 (.mv (.t 12)),qu 76 (.mv (.t 13)),qu 77 (.bin .add (.t 75) (.t 76)),qu 78 (.faddr 1 (.t 5)),qu 79 (.load false 1 (.t 78)),qu 80 (.mv (.t 12)),qu 81 (.mv (.t 13)),qu 82 (.bin .add (.t 80) (.t 81)),qu 83 (.ixsl 1 (.t 79) (.t 82)),qu 84 (.load false 1 (.t 83)),qu 85 (.faddr 1 (.t 5)),qu 86 (.load false 1 (.t 85)),qu 87 (.mv (.t 12)),qu 88 (.ixsl 1 (.t 86) (.t 87)),qu 89 (.load false 1 (.t 88)),qu 90 (.ixsl 1 (.t 71) (.t 72)),⟨none,none,[1004],(.store 1 (.t 90) (.t 84))⟩,qu 91 (.ixsl 1 (.t 74) (.t 77)),qm (.store 1 (.t 91) (.t 89))]) (.seq (.reg [qq 92 (.faddr 1 (.t 5)),qq 93 (.load false 1 (.t 92)),qq 94 (.mv (.t 12)),qq 95 (.ixsl 1 (.t 93) (.t 94)),qq 96 (.load false 1 (.t 95)),qq 14 (.alloc 30 1 [(.slice none 0 0)]),qn (.store 1 (.t 14) (.t 96))]) (.seq (.reg [qq 97 (.load false 1 (.t 14)),qq 98 (.load false 1 (.t 11)),qq 99 (.ixsl 3 (.t 97) (.t 98)),qq 100 (.load true 3 (.t 99)),qq 15 (.alloc 38 3 [(.bool false),e0,e0]),qn (.store 3 (.t 15) (.t 100))]) (.seq (.reg [qq 101 (.load false 1 (.t 14)),qq 102 (.mkfn 65 [(.t 15)]),qq 103 (.call 64 [(.t 101),(.t 102)])]) (.seq (.seq (.reg [qq 104 (.faddr 1 (.t 5)),qq 105 (.load false 1 (.t 104)),qq 106 (.lensl (.t 105)),qq 107 (.mv (ci 0))]) (.block 6 (.loop (.seq (.reg [qq 108 (.bin .lss (.t 107) (.t 106))]) (.seq (.cond (.t 108) .skip (.exit 6)) (.seq (.block 7 (.seq (.reg [qq 109 (.mv (.t 107)),qq 110 (.ixsl 1 (.t 105) (.t 107)),qq 111 (.load false 1 (.t 110)),qq 16 (.mv (.t 109)),qq 17 (.mv (.t 111))]) (.seq (.reg [qq 112 (.mv (.t 17)),qq 113 (.load false 1 (.t 11)),qq 114 (.ixsl 3 (.t 112) (.t 113)),qq 115 (.load true 3 (.t 114)),qq 18 (.alloc 38 3 [(.bool false),e0,e0]),qn (.store 3 (.t 18) (.t 115))]) (.seq (.reg [qq 116 (.mv (.t 16)),qq 117 (.mv (.t 12)),qq 118 (.bin .neq (.t 116) (.t 117)),qq 119 (.mv (.t 118)),⟨(some 120),(some (119,true)),(.load true 3 (.t 18))⟩,⟨(some 121),(some (119,true)),(.call 63 [(.t 120)])⟩,⟨(some 122),(some (119,true)),(.bin .neq (.t 121) (ci 0))⟩,qq 123 (.pick (.t 119) (.t 122) (.c (.bool false)))]) (.cond (.t 123) (.reg [qq 124 (.mv (.t 17)),qq 125 (.mkfn 67 [(.t 18),(.t 14)]),qq 126 (.call 64 [(.t 124),(.t 125)])]) .skip))))) (.reg [qq 127 (.bin .add (.t 107) (ci 1)),qq 107 (.mv (.t 127))]))))))) (.reg [qq 128 (.faddr 2 (.t 5)),qq 129 (.load false 1 (.t 128)),qq 130 (.load false 1 (.t 11)),qq 131 (.bslice 3 1 1 [(.int .i64 0)] [(0,1,(.t 130))]),qq 132 (.app 3 1 8 (.t 129) (.t 131)),qq 133 (.faddr 2 (.t 5)),qn (.store 1 (.t 133) (.t 132))]))))))))))) (.reg [qq 134 (.bin .add (.t 56) (ci 1)),qq 56 (.mv (.t 134))]))))))) (.seq (.reg [qq 135 (.load true 3 (.t 5)),qn (.store 3 (.t 4) (.t 135))]) .ret)))))
theorem tr39:trFun Tryz.prog 39=some ⟨136,[.cell 4 true 3],c39⟩:=by kernel_rfl
set_option maxHeartbeats 40000000 in
theorem ok_plain:SpecOK Tryz.prog 39 (nwL spPlain):=by
 refine newL_run (env_cons ok_cloneQ (env_cons ok_qNorm (env_cons ok_idxR (env_cons ok_each (env_cons ok_qSign (env_nil _)))))) mixed tr39 ?_ ?_
 ·intro args h h' r hle e
  unfold spPlain at e ⊢
  split at e
  ·split at e
   ·rename_i l hb
    simp only [decRows_mono hle hb];exact e
   ·cases e
  ·cases e
 intro args h N r hG hN
 unfold spPlain at hG
 split at hG
 case h_2=>cases hG
 rename_i n sl
 split at hG
 case h_2=>cases hG
 rename_i l hx
 split at hG
 case isFalse=>cases hG
 rename_i hs
 cases hG
 obtain ⟨n,rfl⟩:=Int.eq_ofNat_of_zero_le hs.n0
 rw [Int.toNat_natCast]
 obtain ⟨a,cc,rfl⟩:=listAt_sl (dec:=decEq h) hx
 have hn8:n <= 8:=by have:=hs.n8;omega
 have hm:=hs.m
 refine ⟨plainNL_par _ _ _ (fun e=>?_) _,by simp,?_⟩
 ·have:=(red_inv l.length (eqM n l) n).r
  exact List.eq_nil_of_length_eq_zero (by omega)
 have wn1:IntKind.i64.wrap ((n:Int)+1)=((n+1:Nat):Int):=by rw [i64_in _ (by omega)];omega
 have mk1:(0 <= ((n+1:Nat):Int))=True:=eq_true (by omega)
 have mk2:(40 * ((n+1:Nat):Int) <= 281474976710656)=True:=eq_true (by omega)
 have mk3:(((n+1:Nat):Int) <= 9223372036854775807)=True:=eq_true (by omega)
 simp only [c39,G0,Nat.reduceAdd]
 simp only [↓R0,R1,simprocAttr,-Int.reduceAbs]
 refine lp_parts (fun c tm hp nx=>∃ (i M:Nat) (slr:Value),c+i=l.length /\ tmget tm 0 = .int .i64 n /\ tmget tm 21 = .slice a l.length cc /\ tmget tm 22 = .int .i64 l.length /\ tmget tm 23 = .int .i64 i /\ tmget tm 4 = .pointer (some ⟨N+0,0,none⟩) /\ tmget tm 5 = .pointer (some ⟨N+1,0,none⟩) /\
   hget hp (N+0)=some ⟨65,3,true,[.int .i64 0,.slice none 0 0,.slice none 0 0]⟩ /\ hget hp (N+1)=some ⟨65,3,true,[.int .i64 n,slr,.slice none 0 0]⟩ /\ HdrS hp (N+2) M i (n+1) slr (eqM n l) /\ (∀ q,q < N -> hget hp q=hget h q) /\ N+2 <= M /\ nx=M+0) ?_ l.length
  ⟨0,N+2,.slice none 0 0,by omega,?_,?_,?_,?_,?_,?_,?_,?_,.inl ⟨rfl,rfl⟩,?_,Nat.le_refl _,rfl⟩
 rotate_left
 all_goals first | (simp only [↓R0,R1,simprocAttr,-Int.reduceAbs];done) | (simp only [↓R0,R1,simprocAttr,-Int.reduceAbs];rfl) | skip
 ·intro q hq
  have nb:∀ j,(N+j=q)=False:=fun j=>eq_false (by omega)
  simp only [↓R0,R1,simprocAttr,-Int.reduceAbs,nb]
 rintro c tm hp nx ⟨i,M,slr,hc,t0,t21,t22,t23,t4,t5,b0,b1,hS,hh,hM,hnx⟩
 rw [hnx]
 clear hnx nx
 have M0:∀ j,(M+j=N+0)=False:=fun j=>eq_false (by omega)
 have M1:∀ j,(M+j=N+1)=False:=fun j=>eq_false (by omega)
 have Q0:∀ j,(N+0=M+j)=False:=fun j=>eq_false (by omega)
 have Q1:∀ j,(N+1=M+j)=False:=fun j=>eq_false (by omega)
 have R0x:∀ d,(N=M+d)=False:=fun d=>eq_false (by omega)
 have R9x:(N=M)=False:=eq_false (by omega)
 have R1x:(N+1=M)=False:=eq_false (by omega)
 by_cases c1:i < l.length
 ·obtain ⟨k,off,blk,a',n',c',ea,hb,q1,q2,hn',hl'⟩:=eq_at hx c1
  subst ea
  have hk:=hN _ _ hb
  have hbb:hget hp k=some blk:=by rw [hh k hk];exact hb
  have nk:∀ j,(M+j=k)=False:=fun j=>eq_false (by omega)
  have c1':((i:Int) < (l.length:Int))=True:=eq_true (by omega)
  have wi1:IntKind.i64.wrap ((i:Int)+1)=((i+1:Nat):Int):=by rw [i64_in _ (by omega)];omega
  have hcl:=hs.len _ (eqAt_mem c1)
  rw [Int.toNat_natCast] at hcl
  have hn'':n'=n:=by omega
  subst hn''
  have raw:=fun j hj=>raw_at hs c1 (j:=j) hj
  have okq:=fun j=>hs.at c1 j
  have l1:((eqAt l i).coef ++ [(eqAt l i).rhs]).length=n'+1:=by rw [List.length_append,hcl];rfl
  have rl:=rqs_len ((eqAt l i).coef ++ [(eqAt l i).rhs])
  rw [l1] at rl
  have rat:∀ j,j < n'+1 -> ((rqs ((eqAt l i).coef ++ [(eqAt l i).rhs])).drop (j * 3)).take 3=((eqAt l i).at n' j).cells:=fun j hj=>rqs_at _ j _ (raw j hj)
  have rok:=rqs_ok (eqAt l i).coef
  have rlc:=rqs_len (eqAt l i).coef
  rw [hcl] at rlc
  have rap:=rqs_app (eqAt l i).coef (eqAt l i).rhs
  have rone:n'=0 -> (eqAt l i).rhs.cells=rqs ((eqAt l i).coef ++ [(eqAt l i).rhs]):=fun e=>by
   rw [List.eq_nil_of_length_eq_zero (hcl.trans e)];exact rqs_one _
  have e5l:(Value.slice a' n' c' :: (eqAt l i).tl).length=5:=rfl
  have e5o:(Value.slice a' n' c' :: (eqAt l i).tl).all okCell=true:=rfl
  have e50:(Value.slice a' n' c' :: (eqAt l i).tl)[0]?=some (.slice a' n' c'):=rfl
  have e51:((Value.slice a' n' c' :: (eqAt l i).tl).drop 1).take 3=(eqAt l i).rhs.cells:=rfl
  have e5s:setR [.slice none 0 0,.bool false,.string ⟨⟨[]⟩⟩,.string ⟨⟨[]⟩⟩,.int .i64 0] 0 (Value.slice a' n' c' :: (eqAt l i).tl)=Value.slice a' n' c' :: (eqAt l i).tl:=rfl
  have rhl:(eqAt l i).rhs.cells.length=3:=rfl
  have rho:(eqAt l i).rhs.cells.all okCell=true:=rfl
  have rht:(eqAt l i).rhs.cells.take 3=(eqAt l i).rhs.cells:=rfl
  have rhs0:setR [.bool false,.string ⟨⟨[]⟩⟩,.string ⟨⟨[]⟩⟩] 0 (eqAt l i).rhs.cells=(eqAt l i).rhs.cells:=rfl
  have qn:∀ j,spQNorm [.agg ⟨((eqAt l i).at n' j).cells⟩]=some (.agg ⟨rE (eqM n' l i j)⟩):=fun j=>qNorm_of (okq j)
  have qcl:∀ j,((eqAt l i).at n' j).cells.length=3:=fun _=>rfl
  have qco:∀ j,((eqAt l i).at n' j).cells.all okCell=true:=fun _=>rfl
  have qct:∀ j,((eqAt l i).at n' j).cells.take 3=((eqAt l i).at n' j).cells:=fun _=>rfl
  have qcs:∀ j,setR [.bool false,.string ⟨⟨[]⟩⟩,.string ⟨⟨[]⟩⟩] 0 ((eqAt l i).at n' j).cells=((eqAt l i).at n' j).cells:=fun _=>rfl
  have clS:∀ {hp':Heap} {ad:Addr},a'=some ad -> (∀ q,q < N -> hget hp' q=hget h q) -> spClone [.slice (some ad) n' c'] hp'=some ⟨1,fun σ => .slice (some ⟨σ 0,0,none⟩) n' n',fun _=>38,fun _=>3,fun _ _=>rqs (eqAt l i).coef⟩:=fun {hp' ad} ea he=>by
   subst ea
   unfold spClone
   simp only [listAt_mono (fun q b e=>by rw [he q (hN _ _ e)];exact e) (fun _ _ e=>e) hl']
   exact if_pos (by omega)
  cases a' with
  | none=>
   obtain ⟨z,z'⟩:=nil_list hl'
   have e50':(Value.slice none n' c' :: (eqAt l i).tl)[0]?=some (.slice none 0 0):=by rw [z,z'];rfl
   have cl0:∀ hp':Heap,spClone [.slice none 0 0] hp'=some ⟨0,fun _ => .slice none 0 0,fun _=>0,fun _=>0,fun _ _=>[]⟩:=fun _=>rfl
   have rone':=rone z
   rw [rone'] at e51 rhl rho rht rhs0
   clear rone rone' rap
   clear e50
   generalize rqs ((eqAt l i).coef ++ [(eqAt l i).rhs])=RL at *
   generalize rqs (eqAt l i).coef=RC at *
   generalize (Value.slice none n' c' :: (eqAt l i).tl)=C5 at *
   have e30:M+2+0=M+2:=rfl
   simp only [↓R0,R1,simprocAttr,-Int.reduceAbs,e30,rdS,nwL,newHL0,newHL1,t0,t21,t22,t23,t4,t5,b0,b1,c1,c1',hbb,nk,q1,q2,e5l,e5o,e50',cl0,e51,e5s,rhl,rho,rht,rhs0,wn1,mk1,mk2,mk3,List.replicate_zero,List.flatten_nil,Int.toNat_zero,M0,M1,Q0,Q1,R0x,R9x,R1x]
   refine lp_parts (fun d tm hp2 nx=>∃ (j M2 kk:Nat) (xk:Bool),d+j=n'+1 /\ tmget tm 0 = .int .i64 n' /\ tmget tm 21 = .slice (some ⟨k,off,none⟩) l.length cc /\ tmget tm 22 = .int .i64 l.length /\ tmget tm 23 = .int .i64 i /\ tmget tm 4 = .pointer (some ⟨N+0,0,none⟩) /\ tmget tm 5 = .pointer (some ⟨N+1,0,none⟩) /\
     tmget tm 36 = .slice (some ⟨M+3,0,none⟩) (n'+1) (n'+1) /\ tmget tm 37 = .int .i64 ((n'+1:Nat):Int) /\ tmget tm 38 = .int .i64 j /\ tmget tm 8 = .slice (some ⟨kk,0,none⟩) j j /\
     hget hp2 (M+3)=some ⟨38,3,false,RL⟩ /\ hget hp2 kk=some ⟨38,3,xk,rowC (eqM n' l i) j⟩ /\ M+1 <= kk /\ kk < M2 /\ kk ≠ M+3 /\ (∀ q,q < M -> hget hp2 q=hget hp q) /\ M+4 <= M2 /\ nx=M2+0) ?_ (n'+1)
    ⟨0,M+4,M+1,false,by omega,?_,?_,?_,?_,?_,?_,?_,?_,?_,?_,?_,?_,Nat.le_refl _,by omega,by omega,?_,Nat.le_refl _,rfl⟩
   rotate_left
   all_goals first | (simp only [↓R0,R1,simprocAttr,-Int.reduceAbs,t0,t21,t22,t23,t4,t5];done) | (simp only [↓R0,R1,simprocAttr,-Int.reduceAbs,t0,t21,t22,t23,t4,t5];rfl) | (simp only [↓R0,R1,simprocAttr,-Int.reduceAbs,z,t0,t21,t22,t23,t4,t5];done) | (simp only [↓R0,R1,simprocAttr,-Int.reduceAbs,z,t0,t21,t22,t23,t4,t5];rfl) | skip
   ·intro q hq
    have nb:∀ j,(M+j=q)=False:=fun j=>eq_false (by omega)
    simp only [↓R0,R1,simprocAttr,-Int.reduceAbs,nb]
   rintro d tm hp2 nx ⟨j,M2,kk,xk,hd,t0,t21,t22,t23,t4,t5,t36,t37,t38,t8,br,bk,k1,k2,k3,hh2,hM2,hnx⟩
   rw [hnx]
   clear hnx nx
   have X0:(M=M2)=False:=eq_false (by omega)
   have Y0:(M2=M)=False:=eq_false (by omega)
   have V0:∀ d,(M2+d=M)=False:=fun d=>eq_false (by omega)
   have U0:∀ d,(M=M2+d)=False:=fun d=>eq_false (by omega)
   have X1:(M+1=M2)=False:=eq_false (by omega)
   have Y1:(M2=M+1)=False:=eq_false (by omega)
   have V1:∀ d,(M2+d=M+1)=False:=fun d=>eq_false (by omega)
   have U1:∀ d,(M+1=M2+d)=False:=fun d=>eq_false (by omega)
   have X2:(M+2=M2)=False:=eq_false (by omega)
   have Y2:(M2=M+2)=False:=eq_false (by omega)
   have V2:∀ d,(M2+d=M+2)=False:=fun d=>eq_false (by omega)
   have U2:∀ d,(M+2=M2+d)=False:=fun d=>eq_false (by omega)
   have X3:(M+3=M2)=False:=eq_false (by omega)
   have Y3:(M2=M+3)=False:=eq_false (by omega)
   have V3:∀ d,(M2+d=M+3)=False:=fun d=>eq_false (by omega)
   have U3:∀ d,(M+3=M2+d)=False:=fun d=>eq_false (by omega)
   have Mk:∀ d,(M2+d=kk)=False:=fun d=>eq_false (by omega)
   have kM:∀ d,(kk=M2+d)=False:=fun d=>eq_false (by omega)
   have kR:(kk=M+3)=False:=eq_false k3
   have Rk:(M+3=kk)=False:=eq_false (fun e=>k3 e.symm)
   have N0:∀ d,(M2+d=N+0)=False:=fun d=>eq_false (by omega)
   have N1:∀ d,(M2+d=N+1)=False:=fun d=>eq_false (by omega)
   have W0:∀ d,(N+0=M2+d)=False:=fun d=>eq_false (by omega)
   have W1:∀ d,(N+1=M2+d)=False:=fun d=>eq_false (by omega)
   have Z0:∀ d,(N=M2+d)=False:=fun d=>eq_false (by omega)
   have Z1:(N=M2)=False:=eq_false (by omega)
   have Z2:(N+1=M2)=False:=eq_false (by omega)
   have Z3:(kk=N+1)=False:=eq_false (by omega)
   have Z4:(N+1=kk)=False:=eq_false (by omega)
   have b0':hget hp2 (N+0)=some ⟨65,3,true,[.int .i64 0,.slice none 0 0,.slice none 0 0]⟩:=by rw [hh2 _ (by omega)];exact b0
   have b1':hget hp2 (N+1)=some ⟨65,3,true,[.int .i64 n',slr,.slice none 0 0]⟩:=by rw [hh2 _ (by omega)];exact b1
   by_cases d1:j < n'+1
   ·have d1':((j:Int) < ((n'+1:Nat):Int))=True:=eq_true (by omega)
    have wj:IntKind.i64.wrap ((j:Int)+1)=((j+1:Nat):Int):=by rw [i64_in _ (by omega)];omega
    have gt:=rat j d1
    have g3:j * 3+3 <= (n'+1) * 3:=by omega
    have ap:rowC (eqM n' l i) j ++ rE (eqM n' l i j)=rowC (eqM n' l i) (j+1):=rfl
    have lr:=rowC_len (eqM n' l i) j
    have nle:(j+1 <= j)=False:=eq_false (by omega)
    have ovj:((j+1) * 40 <= 140737488355328)=True:=eq_true (by omega)
    have qnj:=qn j
    have ql:=qcl j
    have qo:=qco j
    have qt:=qct j
    have qs:=qcs j
    generalize ((eqAt l i).at n' j).cells=QC at *
    generalize rowC (eqM n' l i) j=RJ at *
    generalize eRJ:rowC (eqM n' l i) (j+1)=RJ1 at *
    generalize eqM n' l i j=xx at *
    simp only [↓R0,R1,simprocAttr,-Int.reduceAbs,t0,t21,t22,t23,t4,t5,t36,t37,t38,t8,br,bk,b0',b1',d1,d1',wj,gt,g3,rl,ap,lr,nle,ovj,qnj,ql,qo,qt,qs,rE_l3',rE_o3',q3z,q3t,q3s,X0,Y0,V0,U0,X1,Y1,V1,U1,X2,Y2,V2,U2,X3,Y3,V3,U3,Mk,kM,kR,Rk,N0,N1,W0,W1,Z0,Z1,Z2,Z3,Z4]
    refine ⟨d - 1,by omega,j+1,M2+3,M2+2,false,by omega,rfl,rfl,by rw [eRJ,if_pos rfl],by omega,by omega,by omega,fun q hq=>?_,by omega,rfl⟩
    have nb:∀ j,(M2+j=q)=False:=fun j=>eq_false (by omega)
    have nq:(kk=q)=False:=eq_false (by omega)
    simp only [↓R0,R1,simprocAttr,-Int.reduceAbs,nb,nq]
    exact hh2 q hq
   ·have ej:j=n'+1:=by omega
    subst ej
    have d1':(((n'+1:Nat):Int) < ((n'+1:Nat):Int))=False:=eq_false (by omega)
    have lr:=rowC_len (eqM n' l i) (n'+1)
    rcases hS with ⟨hi0,rfl⟩ | ⟨hi0,kr,xr,ρ,xs,rfl,H⟩
    ·simp only [↓R0,R1,simprocAttr,-Int.reduceAbs,t0,t21,t22,t23,t4,t5,t36,t37,t38,t8,br,bk,b0',b1',d1',wi1,X0,Y0,V0,U0,X1,Y1,V1,U1,X2,Y2,V2,U2,X3,Y3,V3,U3,Mk,kM,kR,Rk,N0,N1,W0,W1,Z0,Z1,Z2,Z3,Z4]
     refine ⟨c - 1,by omega,i+1,M2+2,.slice (some ⟨M2+1,0,none⟩) 1 1,by omega,rfl,rfl,.inr ⟨by omega,M2+1,false,fun _=>kk,fun _=>xk,by rw [hi0],?_⟩,fun q hq=>?_,by omega,rfl⟩
     ·rw [hi0]
      refine RowsH.one ?_ ?_ ⟨by omega,by omega⟩ ⟨by omega,by omega⟩ (by omega)
      ·simp only [↓R0,R1,simprocAttr,-Int.reduceAbs,X0,Y0,V0,U0,X1,Y1,V1,U1,X2,Y2,V2,U2,X3,Y3,V3,U3,Mk,kM,kR,Rk,N0,N1,W0,W1,Z0,Z1,Z2,Z3,Z4]
      ·rw [<- hi0]
       simp only [↓R0,R1,simprocAttr,-Int.reduceAbs,X0,Y0,V0,U0,X1,Y1,V1,U1,X2,Y2,V2,U2,X3,Y3,V3,U3,Mk,kM,kR,Rk,N0,N1,W0,W1,Z0,Z1,Z2,Z3,Z4]
       exact bk
     ·have nb:∀ j,(M2+j=q)=False:=fun j=>eq_false (by omega)
      have nb1:(N+1=q)=False:=eq_false (by omega)
      simp only [↓R0,R1,simprocAttr,-Int.reduceAbs,nb,nb1]
      rw [hh2 q (by omega)]
      exact hh q hq
    ·have hb':=H.kb
     have hd':hget hp2 kr=some ⟨30,1,xr,hdrC ρ (n'+1) i⟩:=by rw [hh2 kr (by omega)];exact H.hd
     have lh:=hdrC_len ρ (n'+1) i
     have nlei:(i+1 <= i)=False:=eq_false (by omega)
     have ovi:((i+1) * 24 <= 140737488355328)=True:=eq_true (by omega)
     have r1:∀ d,(M2+d=kr)=False:=fun d=>eq_false (by omega)
     have r2:∀ d,(kr=M2+d)=False:=fun d=>eq_false (by omega)
     have r3:(kr=N+1)=False:=eq_false (by omega)
     have r4:(N+1=kr)=False:=eq_false (by omega)
     have r5:(kr=N+0)=False:=eq_false (by omega)
     have r6:(kr=kk)=False:=eq_false (by omega)
     generalize eHC:hdrC ρ (n'+1) i=HC at *
     simp only [↓R0,R1,simprocAttr,-Int.reduceAbs,t0,t21,t22,t23,t4,t5,t36,t37,t38,t8,br,bk,b0',b1',d1',wi1,hd',lh,nlei,ovi,r1,r2,r3,r4,r5,r6,X0,Y0,V0,U0,X1,Y1,V1,U1,X2,Y2,V2,U2,X3,Y3,V3,U3,Mk,kM,kR,Rk,N0,N1,W0,W1,Z0,Z1,Z2,Z3,Z4]
     refine ⟨c - 1,by omega,i+1,M2+2,.slice (some ⟨M2+1,0,none⟩) (i+1) (i+1),by omega,rfl,rfl,.inr ⟨by omega,M2+1,false,_,_,rfl,H.push (kk:=kk) (xk:=xk) ?_ ?_ (by omega) ⟨by omega,by omega⟩ ⟨by omega,by omega⟩ (by omega) ?_⟩,fun q hq=>?_,by omega,rfl⟩
     ·rw [eHC]
      simp only [↓R0,R1,simprocAttr,-Int.reduceAbs,X0,Y0,V0,U0,X1,Y1,V1,U1,X2,Y2,V2,U2,X3,Y3,V3,U3,Mk,kM,kR,Rk,N0,N1,W0,W1,Z0,Z1,Z2,Z3,Z4,r1,r2,r3]
     ·simp only [↓R0,R1,simprocAttr,-Int.reduceAbs,X0,Y0,V0,U0,X1,Y1,V1,U1,X2,Y2,V2,U2,X3,Y3,V3,U3,Mk,kM,kR,Rk,N0,N1,W0,W1,Z0,Z1,Z2,Z3,Z4,r6]
      exact bk
     ·intro q q1 q2 q3
      have nb:∀ j,(M2+j=q)=False:=fun j=>eq_false (by omega)
      have nb1:(N+1=q)=False:=eq_false (by omega)
      have nb2:(kr=q)=False:=eq_false (fun e=>q3 e.symm)
      simp only [↓R0,R1,simprocAttr,-Int.reduceAbs,nb,nb1,nb2]
      exact hh2 q (by omega)
     ·have nb:∀ j,(M2+j=q)=False:=fun j=>eq_false (by omega)
      have nb1:(N+1=q)=False:=eq_false (by omega)
      have nb2:(kr=q)=False:=eq_false (by omega)
      simp only [↓R0,R1,simprocAttr,-Int.reduceAbs,nb,nb1,nb2]
      rw [hh2 q (by omega)]
      exact hh q hq
  | some ad=>
   have xM:=fun j b hp'=>extL_ge (show N <= M by omega) j b h hp'
   have xh:ExtL N h hp:=hh
   have clS':∀ {hp':Heap},ExtL N h hp' -> spClone [.slice (some ad) n' c'] hp'=_:=fun he=>clS rfl he
   have zc:(n'=0)=(n'=0):=rfl
   have nlc:(n'+1 <= n')=False:=eq_false (by omega)
   have ov:((n'+1) * 40 <= 140737488355328)=True:=eq_true (by omega)
   generalize rqs ((eqAt l i).coef ++ [(eqAt l i).rhs])=RL at *
   generalize rqs (eqAt l i).coef=RC at *
   generalize (eqAt l i).rhs.cells=RH at *
   generalize (Value.slice (some ad) n' c' :: (eqAt l i).tl)=C5 at *
   have e30:M+2+0=M+2:=rfl
   simp only [↓R0,R1,simprocAttr,-Int.reduceAbs,e30,rdS,nwL,newHL0,newHL1,t0,t21,t22,t23,t4,t5,b0,b1,c1,c1',hbb,nk,q1,q2,e5l,e5o,e50,e51,e5s,rhl,rho,rht,rhs0,wn1,mk1,mk2,mk3,List.replicate_zero,List.flatten_nil,Int.toNat_zero,M0,M1,Q0,Q1,R0x,R9x,R1x,clS',xM,xh,nlc,ov,rlc,rok,rap]
   refine lp_parts (fun d tm hp2 nx=>∃ (j M2 kk:Nat) (xk:Bool),d+j=n'+1 /\ tmget tm 0 = .int .i64 n' /\ tmget tm 21 = .slice (some ⟨k,off,none⟩) l.length cc /\ tmget tm 22 = .int .i64 l.length /\ tmget tm 23 = .int .i64 i /\ tmget tm 4 = .pointer (some ⟨N+0,0,none⟩) /\ tmget tm 5 = .pointer (some ⟨N+1,0,none⟩) /\
     tmget tm 36 = .slice (some ⟨M+4,0,none⟩) (n'+1) (n'+1) /\ tmget tm 37 = .int .i64 ((n'+1:Nat):Int) /\ tmget tm 38 = .int .i64 j /\ tmget tm 8 = .slice (some ⟨kk,0,none⟩) j j /\
     hget hp2 (M+4)=some ⟨38,3,false,RL⟩ /\ hget hp2 kk=some ⟨38,3,xk,rowC (eqM n' l i) j⟩ /\ M+1 <= kk /\ kk < M2 /\ kk ≠ M+4 /\ (∀ q,q < M -> hget hp2 q=hget hp q) /\ M+5 <= M2 /\ nx=M2+0) ?_ (n'+1)
    ⟨0,M+5,M+1,false,by omega,?_,?_,?_,?_,?_,?_,?_,?_,?_,?_,?_,?_,Nat.le_refl _,by omega,by omega,?_,Nat.le_refl _,rfl⟩
   rotate_left
   all_goals first | (simp only [↓R0,R1,simprocAttr,-Int.reduceAbs,t0,t21,t22,t23,t4,t5];done) | (simp only [↓R0,R1,simprocAttr,-Int.reduceAbs,t0,t21,t22,t23,t4,t5];rfl) | skip
   ·intro q hq
    have nb:∀ j,(M+j=q)=False:=fun j=>eq_false (by omega)
    simp only [↓R0,R1,simprocAttr,-Int.reduceAbs,nb]
   rintro d tm hp2 nx ⟨j,M2,kk,xk,hd,t0,t21,t22,t23,t4,t5,t36,t37,t38,t8,br,bk,k1,k2,k3,hh2,hM2,hnx⟩
   rw [hnx]
   clear hnx nx
   have X0:(M=M2)=False:=eq_false (by omega)
   have Y0:(M2=M)=False:=eq_false (by omega)
   have V0:∀ d,(M2+d=M)=False:=fun d=>eq_false (by omega)
   have U0:∀ d,(M=M2+d)=False:=fun d=>eq_false (by omega)
   have X1:(M+1=M2)=False:=eq_false (by omega)
   have Y1:(M2=M+1)=False:=eq_false (by omega)
   have V1:∀ d,(M2+d=M+1)=False:=fun d=>eq_false (by omega)
   have U1:∀ d,(M+1=M2+d)=False:=fun d=>eq_false (by omega)
   have X2:(M+2=M2)=False:=eq_false (by omega)
   have Y2:(M2=M+2)=False:=eq_false (by omega)
   have V2:∀ d,(M2+d=M+2)=False:=fun d=>eq_false (by omega)
   have U2:∀ d,(M+2=M2+d)=False:=fun d=>eq_false (by omega)
   have X3:(M+3=M2)=False:=eq_false (by omega)
   have Y3:(M2=M+3)=False:=eq_false (by omega)
   have V3:∀ d,(M2+d=M+3)=False:=fun d=>eq_false (by omega)
   have U3:∀ d,(M+3=M2+d)=False:=fun d=>eq_false (by omega)
   have X4:(M+4=M2)=False:=eq_false (by omega)
   have Y4:(M2=M+4)=False:=eq_false (by omega)
   have V4:∀ d,(M2+d=M+4)=False:=fun d=>eq_false (by omega)
   have U4:∀ d,(M+4=M2+d)=False:=fun d=>eq_false (by omega)
   have Mk:∀ d,(M2+d=kk)=False:=fun d=>eq_false (by omega)
   have kM:∀ d,(kk=M2+d)=False:=fun d=>eq_false (by omega)
   have kR:(kk=M+4)=False:=eq_false k3
   have Rk:(M+4=kk)=False:=eq_false (fun e=>k3 e.symm)
   have N0:∀ d,(M2+d=N+0)=False:=fun d=>eq_false (by omega)
   have N1:∀ d,(M2+d=N+1)=False:=fun d=>eq_false (by omega)
   have W0:∀ d,(N+0=M2+d)=False:=fun d=>eq_false (by omega)
   have W1:∀ d,(N+1=M2+d)=False:=fun d=>eq_false (by omega)
   have Z0:∀ d,(N=M2+d)=False:=fun d=>eq_false (by omega)
   have Z1:(N=M2)=False:=eq_false (by omega)
   have Z2:(N+1=M2)=False:=eq_false (by omega)
   have Z3:(kk=N+1)=False:=eq_false (by omega)
   have Z4:(N+1=kk)=False:=eq_false (by omega)
   have b0':hget hp2 (N+0)=some ⟨65,3,true,[.int .i64 0,.slice none 0 0,.slice none 0 0]⟩:=by rw [hh2 _ (by omega)];exact b0
   have b1':hget hp2 (N+1)=some ⟨65,3,true,[.int .i64 n',slr,.slice none 0 0]⟩:=by rw [hh2 _ (by omega)];exact b1
   by_cases d1:j < n'+1
   ·have d1':((j:Int) < ((n'+1:Nat):Int))=True:=eq_true (by omega)
    have wj:IntKind.i64.wrap ((j:Int)+1)=((j+1:Nat):Int):=by rw [i64_in _ (by omega)];omega
    have gt:=rat j d1
    have g3:j * 3+3 <= (n'+1) * 3:=by omega
    have ap:rowC (eqM n' l i) j ++ rE (eqM n' l i j)=rowC (eqM n' l i) (j+1):=rfl
    have lr:=rowC_len (eqM n' l i) j
    have nle:(j+1 <= j)=False:=eq_false (by omega)
    have ovj:((j+1) * 40 <= 140737488355328)=True:=eq_true (by omega)
    have qnj:=qn j
    have ql:=qcl j
    have qo:=qco j
    have qt:=qct j
    have qs:=qcs j
    generalize ((eqAt l i).at n' j).cells=QC at *
    generalize rowC (eqM n' l i) j=RJ at *
    generalize eRJ:rowC (eqM n' l i) (j+1)=RJ1 at *
    generalize eqM n' l i j=xx at *
    simp only [↓R0,R1,simprocAttr,-Int.reduceAbs,t0,t21,t22,t23,t4,t5,t36,t37,t38,t8,br,bk,b0',b1',d1,d1',wj,gt,g3,rl,ap,lr,nle,ovj,qnj,ql,qo,qt,qs,rE_l3',rE_o3',q3z,q3t,q3s,X0,Y0,V0,U0,X1,Y1,V1,U1,X2,Y2,V2,U2,X3,Y3,V3,U3,X4,Y4,V4,U4,Mk,kM,kR,Rk,N0,N1,W0,W1,Z0,Z1,Z2,Z3,Z4]
    refine ⟨d - 1,by omega,j+1,M2+3,M2+2,false,by omega,rfl,rfl,by rw [eRJ,if_pos rfl],by omega,by omega,by omega,fun q hq=>?_,by omega,rfl⟩
    have nb:∀ j,(M2+j=q)=False:=fun j=>eq_false (by omega)
    have nq:(kk=q)=False:=eq_false (by omega)
    simp only [↓R0,R1,simprocAttr,-Int.reduceAbs,nb,nq]
    exact hh2 q hq
   ·have ej:j=n'+1:=by omega
    subst ej
    have d1':(((n'+1:Nat):Int) < ((n'+1:Nat):Int))=False:=eq_false (by omega)
    have lr:=rowC_len (eqM n' l i) (n'+1)
    rcases hS with ⟨hi0,rfl⟩ | ⟨hi0,kr,xr,ρ,xs,rfl,H⟩
    ·simp only [↓R0,R1,simprocAttr,-Int.reduceAbs,t0,t21,t22,t23,t4,t5,t36,t37,t38,t8,br,bk,b0',b1',d1',wi1,X0,Y0,V0,U0,X1,Y1,V1,U1,X2,Y2,V2,U2,X3,Y3,V3,U3,X4,Y4,V4,U4,Mk,kM,kR,Rk,N0,N1,W0,W1,Z0,Z1,Z2,Z3,Z4]
     refine ⟨c - 1,by omega,i+1,M2+2,.slice (some ⟨M2+1,0,none⟩) 1 1,by omega,rfl,rfl,.inr ⟨by omega,M2+1,false,fun _=>kk,fun _=>xk,by rw [hi0],?_⟩,fun q hq=>?_,by omega,rfl⟩
     ·rw [hi0]
      refine RowsH.one ?_ ?_ ⟨by omega,by omega⟩ ⟨by omega,by omega⟩ (by omega)
      ·simp only [↓R0,R1,simprocAttr,-Int.reduceAbs,X0,Y0,V0,U0,X1,Y1,V1,U1,X2,Y2,V2,U2,X3,Y3,V3,U3,X4,Y4,V4,U4,Mk,kM,kR,Rk,N0,N1,W0,W1,Z0,Z1,Z2,Z3,Z4]
      ·rw [<- hi0]
       simp only [↓R0,R1,simprocAttr,-Int.reduceAbs,X0,Y0,V0,U0,X1,Y1,V1,U1,X2,Y2,V2,U2,X3,Y3,V3,U3,X4,Y4,V4,U4,Mk,kM,kR,Rk,N0,N1,W0,W1,Z0,Z1,Z2,Z3,Z4]
       exact bk
     ·have nb:∀ j,(M2+j=q)=False:=fun j=>eq_false (by omega)
      have nb1:(N+1=q)=False:=eq_false (by omega)
      simp only [↓R0,R1,simprocAttr,-Int.reduceAbs,nb,nb1]
      rw [hh2 q (by omega)]
      exact hh q hq
    ·have hb':=H.kb
     have hd':hget hp2 kr=some ⟨30,1,xr,hdrC ρ (n'+1) i⟩:=by rw [hh2 kr (by omega)];exact H.hd
     have lh:=hdrC_len ρ (n'+1) i
     have nlei:(i+1 <= i)=False:=eq_false (by omega)
     have ovi:((i+1) * 24 <= 140737488355328)=True:=eq_true (by omega)
     have r1:∀ d,(M2+d=kr)=False:=fun d=>eq_false (by omega)
     have r2:∀ d,(kr=M2+d)=False:=fun d=>eq_false (by omega)
     have r3:(kr=N+1)=False:=eq_false (by omega)
     have r4:(N+1=kr)=False:=eq_false (by omega)
     have r5:(kr=N+0)=False:=eq_false (by omega)
     have r6:(kr=kk)=False:=eq_false (by omega)
     generalize eHC:hdrC ρ (n'+1) i=HC at *
     simp only [↓R0,R1,simprocAttr,-Int.reduceAbs,t0,t21,t22,t23,t4,t5,t36,t37,t38,t8,br,bk,b0',b1',d1',wi1,hd',lh,nlei,ovi,r1,r2,r3,r4,r5,r6,X0,Y0,V0,U0,X1,Y1,V1,U1,X2,Y2,V2,U2,X3,Y3,V3,U3,X4,Y4,V4,U4,Mk,kM,kR,Rk,N0,N1,W0,W1,Z0,Z1,Z2,Z3,Z4]
     refine ⟨c - 1,by omega,i+1,M2+2,.slice (some ⟨M2+1,0,none⟩) (i+1) (i+1),by omega,rfl,rfl,.inr ⟨by omega,M2+1,false,_,_,rfl,H.push (kk:=kk) (xk:=xk) ?_ ?_ (by omega) ⟨by omega,by omega⟩ ⟨by omega,by omega⟩ (by omega) ?_⟩,fun q hq=>?_,by omega,rfl⟩
     ·rw [eHC]
      simp only [↓R0,R1,simprocAttr,-Int.reduceAbs,X0,Y0,V0,U0,X1,Y1,V1,U1,X2,Y2,V2,U2,X3,Y3,V3,U3,X4,Y4,V4,U4,Mk,kM,kR,Rk,N0,N1,W0,W1,Z0,Z1,Z2,Z3,Z4,r1,r2,r3]
     ·simp only [↓R0,R1,simprocAttr,-Int.reduceAbs,X0,Y0,V0,U0,X1,Y1,V1,U1,X2,Y2,V2,U2,X3,Y3,V3,U3,X4,Y4,V4,U4,Mk,kM,kR,Rk,N0,N1,W0,W1,Z0,Z1,Z2,Z3,Z4,r6]
      exact bk
     ·intro q q1 q2 q3
      have nb:∀ j,(M2+j=q)=False:=fun j=>eq_false (by omega)
      have nb1:(N+1=q)=False:=eq_false (by omega)
      have nb2:(kr=q)=False:=eq_false (fun e=>q3 e.symm)
      simp only [↓R0,R1,simprocAttr,-Int.reduceAbs,nb,nb1,nb2]
      exact hh2 q (by omega)
     ·have nb:∀ j,(M2+j=q)=False:=fun j=>eq_false (by omega)
      have nb1:(N+1=q)=False:=eq_false (by omega)
      have nb2:(kr=q)=False:=eq_false (by omega)
      simp only [↓R0,R1,simprocAttr,-Int.reduceAbs,nb,nb1,nb2]
      rw [hh2 q (by omega)]
      exact hh q hq
 ·have e:i=l.length:=by omega
  subst e
  have c1':((l.length:Int) < (l.length:Int))=False:=eq_false (by omega)
  rcases hS with ⟨m0,rfl⟩ | ⟨m0,kr0,xr0,ρ0,xs0,rfl,H0⟩
  ·have hsn:(redK l.length (eqM n l) n).hs=[]:=List.eq_nil_of_length_eq_zero (by have:=(red_inv l.length (eqM n l) n).r;omega)
   obtain ⟨pm,pv⟩:=plainNL_0 (n:=n) m0 hsn
   generalize plainNL n l.length (redK l.length (eqM n l) n)=NL at *
   simp only [↓R0,R1,simprocAttr,-Int.reduceAbs,t0,t21,t22,t23,t4,t5,c1']
   refine lp_parts (fun c tm hp nx=>∃ (k M:Nat),c+k=n /\ tmget tm 55 = .int .i64 n /\ tmget tm 56 = .int .i64 k /\ tmget tm 4 = .pointer (some ⟨N+0,0,none⟩) /\ tmget tm 5 = .pointer (some ⟨N+1,0,none⟩) /\
     hget hp (N+0)=some ⟨65,3,true,[.int .i64 0,.slice none 0 0,.slice none 0 0]⟩ /\ hget hp (N+1)=some ⟨65,3,true,[.int .i64 n,.slice none 0 0,.slice none 0 0]⟩ /\ (∀ q,q < N -> hget hp q=hget h q) /\ N+2 <= M /\ nx=M+0) ?_ n
    ⟨0,M,by omega,?_,?_,?_,?_,b0,b1,hh,hM,rfl⟩
   rotate_left
   all_goals first | (simp only [↓R0,R1,simprocAttr,-Int.reduceAbs,t4,t5];done) | (simp only [↓R0,R1,simprocAttr,-Int.reduceAbs,t4,t5];rfl) | skip
   clear t0 t21 t22 t23 t4 t5 b0 b1 hh hM c1 hc M0 M1 Q0 Q1 R0x R9x R1x c1'
   rintro c tm hp nx ⟨k,M,hc,t55,t56,t4,t5,b0,b1,hh,hM,hnx⟩
   rw [hnx]
   clear hnx nx
   have M0:∀ j,(M+j=N+0)=False:=fun j=>eq_false (by omega)
   have M1:∀ j,(M+j=N+1)=False:=fun j=>eq_false (by omega)
   have Q0:∀ j,(N+0=M+j)=False:=fun j=>eq_false (by omega)
   have Q1:∀ j,(N+1=M+j)=False:=fun j=>eq_false (by omega)
   have R0x:∀ d,(N=M+d)=False:=fun d=>eq_false (by omega)
   have R9x:(N=M)=False:=eq_false (by omega)
   have R1x:(N+1=M)=False:=eq_false (by omega)
   by_cases ck:k < n
   ·have ck':((k:Int) < (n:Int))=True:=eq_true (by omega)
    have wk:IntKind.i64.wrap ((k:Int)+1)=((k+1:Nat):Int):=by rw [i64_in _ (by omega)];omega
    have ix:∀ b,spIdxR [.slice none 0 0,.func (.func 62) #[] ⟨[.pointer (some ⟨M+0,0,none⟩)]⟩] ((M+0,some ⟨3,1,true,[.int .i64 (k:Nat)]⟩) :: (M+0,b) :: hp)=some (.int .i64 (-1)):=fun b=>idx_nil (k:=k) (spCol_1 (e:=3) (s:=1) (x:=true) (by simp only [hget,if_true]))
    simp only [↓R0,R1,simprocAttr,-Int.reduceAbs,rdS,t55,t56,t4,t5,b0,b1,ck,ck',wk,ix,M0,M1,Q0,Q1,R0x,R9x,R1x]
    refine ⟨c - 1,by omega,k+1,M+1,by omega,rfl,fun q hq=>?_,by omega,rfl⟩
    have nb:∀ j,(M+j=q)=False:=fun j=>eq_false (by omega)
    simp only [↓R0,R1,simprocAttr,-Int.reduceAbs,nb]
    exact hh q hq
   ·have ck':((k:Int) < (n:Int))=False:=eq_false (by omega)
    simp only [↓R0,R1,simprocAttr,-Int.reduceAbs,t55,t56,t4,t5,b0,b1,ck',FinL,isEnd,resL,res1]
    refine ⟨fun i=>i,_,fun i hi=>absurd hi (by rw [pm];omega),fun i j hi=>absurd hi (by rw [pm];omega),rfl,(pv _).symm,fun i hi=>absurd hi (by rw [pm];omega),fun q hq=>?_⟩
    have nb:∀ j,(N+j=q)=False:=fun j=>eq_false (by omega)
    simp only [↓R0,R1,simprocAttr,-Int.reduceAbs,nb]
    exact hh q hq
  ·simp only [↓R0,R1,simprocAttr,-Int.reduceAbs,t0,t21,t22,t23,t4,t5,c1']
   refine lp_parts (fun c tm hp nx=>∃ (k M kr:Nat) (xr:Bool) (ρ:Nat -> Nat) (xs:Nat -> Bool) (ah:Option Addr),c+k=n /\ tmget tm 55 = .int .i64 n /\ tmget tm 56 = .int .i64 k /\ tmget tm 4 = .pointer (some ⟨N+0,0,none⟩) /\ tmget tm 5 = .pointer (some ⟨N+1,0,none⟩) /\
     hget hp (N+0)=some ⟨65,3,true,[.int .i64 0,.slice none 0 0,.slice none 0 0]⟩ /\ hget hp (N+1)=some ⟨65,3,true,[.int .i64 n,.slice (some ⟨kr,0,none⟩) l.length l.length,.slice ah (redK l.length (eqM n l) k).hs.length (redK l.length (eqM n l) k).hs.length]⟩ /\
     RowsH hp (N+2) M kr l.length (n+1) xr ρ (redK l.length (eqM n l) k).M xs /\ HeadS hp (N+2) M kr l.length ρ (redK l.length (eqM n l) k).hs ah /\ (∀ q,q < N -> hget hp q=hget h q) /\ N+2 <= M /\ nx=M+0) ?_ n
    ⟨0,M,kr0,xr0,ρ0,xs0,none,by omega,?_,?_,?_,?_,b0,b1,H0,.inl ⟨rfl,rfl⟩,hh,hM,rfl⟩
   rotate_left
   all_goals first | (simp only [↓R0,R1,simprocAttr,-Int.reduceAbs,t4,t5];done) | (simp only [↓R0,R1,simprocAttr,-Int.reduceAbs,t4,t5];rfl) | skip
   clear t0 t21 t22 t23 t4 t5 b0 b1 hh hM c1 hc M0 M1 Q0 Q1 R0x R9x R1x c1' H0
   rintro c tm hp nx ⟨k,M,kr,xr,ρ,xs,ah,hc,t55,t56,t4,t5,b0,b1,H,HS,hh,hM,hnx⟩
   rw [hnx]
   clear hnx nx
   have M0:∀ j,(M+j=N+0)=False:=fun j=>eq_false (by omega)
   have M1:∀ j,(M+j=N+1)=False:=fun j=>eq_false (by omega)
   have Q0:∀ j,(N+0=M+j)=False:=fun j=>eq_false (by omega)
   have Q1:∀ j,(N+1=M+j)=False:=fun j=>eq_false (by omega)
   have R0x:∀ d,(N=M+d)=False:=fun d=>eq_false (by omega)
   have R9x:(N=M)=False:=eq_false (by omega)
   have R1x:(N+1=M)=False:=eq_false (by omega)
   have I:=red_inv l.length (eqM n l) k
   have rB:=fun hk=>red_RB hs.rb (b:=400) (by omega) (k:=k) hk
   have eS:redK l.length (eqM n l) (k+1)=stepK l.length k (redK l.length (eqM n l) k):=rfl
   have rm:=I.r
   have hb':=H.kb
   by_cases ck:k < n
   case neg=>
    have ek:k=n:=by omega
    subst ek
    have ck':((k:Int) < (k:Int))=False:=eq_false (by omega)
    have HS':=HS
    simp only [↓R0,R1,simprocAttr,-Int.reduceAbs,t55,t56,t4,t5,b0,b1,ck',FinL,isEnd,resL,res1]
    obtain ⟨σ,s1,s2,s3,s4⟩:=plain_fin (hp:=((N+0,some ⟨65,3,true,[.int .i64 k,.slice (some ⟨kr,0,none⟩) l.length l.length,.slice ah (redK l.length (eqM k l) k).hs.length (redK l.length (eqM k l) k).hs.length]⟩) :: hp)) (H.mono (Nat.le_refl _) (fun q q1 q2=>by simp only [hget,show (N+0=q)=False from eq_false (by omega),if_false])) (HS.mono (Nat.le_refl _) (fun q q1 q2 _ _=>by simp only [hget,show (N+0=q)=False from eq_false (by omega),if_false])) m0
    refine ⟨σ,_,s1,s2,rfl,s3,s4,fun q hq=>?_⟩
    have nb:∀ j,(N+j=q)=False:=fun j=>eq_false (by omega)
    simp only [↓R0,R1,simprocAttr,-Int.reduceAbs,nb]
    exact hh q hq
   have ck':((k:Int) < (n:Int))=True:=eq_true (by omega)
   have wk:IntKind.i64.wrap ((k:Int)+1)=((k+1:Nat):Int):=by rw [i64_in _ (by omega)];omega
   have rb:=rB (by omega)
   have p5:=pow5 (k:=k) (by omega)
   have p5':400 * 5 ^ k <= 31250000:=by
    have:5 ^ k <= 5 ^ 7:=Nat.pow_le_pow_right (by omega) (by omega)
    omega
   clear rB
   generalize redK l.length (eqM n l) k=S at *
   obtain ⟨r,er⟩:∃ r,S.hs.length=r:=⟨_,rfl⟩
   rw [er] at b1 rm
   have rb28:∀ q,q < l.length -> ∀ j,j < n+1 -> RB (S.M q j) 268435456:=fun q hq j hj=>(rb q hq j hj).le (by omega)
   have rm':((r:Int) <= (l.length:Int))=True:=eq_true (by omega)
   have ix:∀ b,spIdxR [mkSl kr 0 1 l.length r l.length,.func (.func 62) #[] ⟨[.pointer (some ⟨M+0,0,none⟩)]⟩] ((M+0,some ⟨3,1,true,[.int .i64 (k:Nat)]⟩) :: (M+0,b) :: hp)=some (.int .i64 (match findR S.M k (l.length - r) r with | none=>-1 | some i=>((i - r:Nat):Int))):=fun b=>
    idx_rows (H.mono (Nat.le_refl _) (fun q q1 q2=>by simp only [hget,show (M+0=q)=False from eq_false (by omega),if_false])) rm rb28 (by omega) (by omega) (by omega) (spCol_1 (e:=3) (s:=1) (x:=true) (by simp only [hget,if_true]))
   cases ef:findR S.M k (l.length - r) r with
   | none=>
    rw [ef] at ix
    simp only at ix
    have eS':redK l.length (eqM n l) (k+1)=S:=by rw [eS];unfold stepK;rw [er,ef]
    simp only [↓R0,R1,simprocAttr,-Int.reduceAbs,rdS,t55,t56,t4,t5,b0,b1,ck,ck',wk,rm,rm',ix,M0,M1,Q0,Q1,R0x,R9x,R1x]
    have sameM:∀ q,q < M -> hget ((M+0,some ⟨3,1,true,[.int .i64 (k:Nat)]⟩) :: (M+0,some ⟨3,1,true,[.int .i64 0]⟩) :: hp) q=hget hp q:=fun q hq=>by simp only [hget,show (M+0=q)=False from eq_false (by omega),if_false]
    refine ⟨c - 1,by omega,k+1,M+1,kr,xr,ρ,xs,ah,by omega,rfl,?_,?_,?_,fun q hq=>?_,by omega,rfl⟩
    ·rw [eS',er]
    ·rw [eS']
     exact H.mono (by omega) fun q _ q2=>sameM q q2
    ·rw [eS']
     exact HS.mono (by omega) fun q _ q2 _ _=>sameM q q2
    ·have nb:∀ j,(M+j=q)=False:=fun j=>eq_false (by omega)
     simp only [↓R0,R1,simprocAttr,-Int.reduceAbs,nb]
     exact hh q hq
   | some i=>
    rw [ef] at ix
    simp only at ix
    obtain ⟨f1,f2,f3⟩:=findR_some ef
    have him:i < l.length:=by omega
    have htm:r < l.length:=by omega
    have eS':redK l.length (eqM n l) (k+1)=⟨pivR (swapR S.M r i) r k,S.hs ++ [k]⟩:=by rw [eS];unfold stepK;rw [er,ef]
    have lHC:=hdrC_len ρ (n+1) l.length
    have HCi:=hdrC_at ρ (n+1) him
    have HCr:=hdrC_at ρ (n+1) htm
    have s1:(hdrC ρ (n+1) l.length).set r (.slice (some ⟨ρ i,0,none⟩) (n+1) (n+1))=hdrC (fun q=>if q=r then ρ i else ρ q) (n+1) l.length:=hdrC_set ρ (n+1) (ρ i) htm
    have s2:(hdrC (fun q=>if q=r then ρ i else ρ q) (n+1) l.length).set i (.slice (some ⟨ρ r,0,none⟩) (n+1) (n+1))=hdrC (fun q=>if q=r then ρ i else if q=i then ρ r else ρ q) (n+1) l.length:=by
     refine (hdrC_set (fun q=>if q=r then ρ i else ρ q) (n+1) (ρ r) him).trans (hdrC_congr fun q _=>?_)
     by_cases e1:q=i <;> by_cases e2:q=r <;> simp only [e1,e2,if_true,if_false]
     ·rw [<- e1,e2];simp
     ·have:¬ i=r:=fun x=>e2 (e1.trans x)
      simp [this]
     ·have:¬ r=i:=fun x=>e1 (e2.trans x)
      simp [this]
    have l1:=hdrC_len (fun q=>if q=r then ρ i else ρ q) (n+1) l.length
    have l2:=hdrC_len (fun q=>if q=r then ρ i else if q=i then ρ r else ρ q) (n+1) l.length
    have H2r:(hdrC (fun q=>if q=r then ρ i else if q=i then ρ r else ρ q) (n+1) l.length)[r]?=some (.slice (some ⟨ρ i,0,none⟩) (n+1) (n+1)):=by
     rw [hdrC_at _ _ htm,if_pos rfl]
    obtain ⟨HC2,e2⟩:∃ c,c=hdrC (fun q=>if q=r then ρ i else if q=i then ρ r else ρ q) (n+1) l.length:=⟨_,rfl⟩
    rw [<- e2] at s2 l2 H2r
    obtain ⟨HC1,e1⟩:∃ c,c=hdrC (fun q=>if q=r then ρ i else ρ q) (n+1) l.length:=⟨_,rfl⟩
    rw [<- e1] at s1 s2 l1
    have hdk:=H.hd
    obtain ⟨HC,e0⟩:∃ c,c=hdrC ρ (n+1) l.length:=⟨_,rfl⟩
    rw [<- e0] at s1 lHC HCi HCr hdk
    clear e0 e1
    have hri:=H.row i him
    have bi:=H.bd i him
    have ni:=H.ne i him
    have gk:=rowC_at (S.M i) (show k < n+1 by omega)
    have lk:=rowC_len (S.M i) (n+1)
    have k3:k * 3+3 <= (n+1) * 3:=by omega
    have kw:((k:Int) < ((n+1:Nat):Int))=True:=eq_true (by omega)
    have ckn:k < n+1:=by omega
    have rbi:=rb28 i him
    have rbf:=rbi k (by omega)
    have ea:∀ {hp':Heap},hget hp' (ρ i)=some ⟨38,3,xs i,rowC (S.M i) (n+1)⟩ -> hget hp' (M+2)=some ⟨38,3,true,rE (S.M i k)⟩ -> spEach [.slice (some ⟨ρ i,0,none⟩) (n+1) (n+1),.func (.func 65) #[] ⟨[.pointer (some ⟨M+2,0,none⟩)]⟩] hp'=some (.tuple ⟨[]⟩,ρ i,⟨38,3,xs i,rowC (fun j=>S.M i j / S.M i k) (n+1)⟩):=fun h1 h2=>each2_of h1 h2 rbi rbf f3 (by omega) (by omega)
    have wri:IntKind.i64.wrap ((r:Int)+((i - r:Nat):Int))=(i:Int):=by rw [i64_in _ (by omega)];omega
    have nn:(((i - r:Nat):Int) < 0)=False:=eq_false (by omega)
    have im':((i:Int) < (l.length:Int))=True:=eq_true (by omega)
    have rm2:((r:Int) < (l.length:Int))=True:=eq_true (by omega)
    have r1l:(r+1 <= l.length)=True:=eq_true (by omega)
    have i1l:(i+1 <= l.length)=True:=eq_true (by omega)
    have a1:∀ d,(M+d=kr)=False:=fun d=>eq_false (by omega)
    have a2:∀ d,(kr=M+d)=False:=fun d=>eq_false (by omega)
    have a3:(kr=N+1)=False:=eq_false (by omega)
    have a4:(N+1=kr)=False:=eq_false (by omega)
    have a5:(kr=N+0)=False:=eq_false (by omega)
    have a6:∀ d,(M+d=ρ i)=False:=fun d=>eq_false (by omega)
    have a7:∀ d,(ρ i=M+d)=False:=fun d=>eq_false (by omega)
    have a8:(kr=ρ i)=False:=eq_false (fun e=>ni e.symm)
    have a9:(ρ i=kr)=False:=eq_false ni
    have aa:(ρ i=N+1)=False:=eq_false (by omega)
    have ab:(N+1=ρ i)=False:=eq_false (by omega)
    have ac:(ρ i=N+0)=False:=eq_false (by omega)
    generalize rowC (S.M i) (n+1)=RI at *
    obtain ⟨RH,eRH⟩:∃ c,c=rowC (fun j=>S.M i j / S.M i k) (n+1):=⟨_,rfl⟩
    rw [<- eRH] at ea
    simp only [↓R0,R1,simprocAttr,-Int.reduceAbs,rdS,upS,t55,t56,t4,t5,b0,b1,ck,ck',wk,rm,rm',ix,nn,wri,im',rm2,r1l,i1l,him,htm,hdk,lHC,HCi,HCr,s1,s2,l1,l2,H2r,hri,gk,lk,k3,kw,ckn,ea,rE_l3',rE_o3',q3z,q3t,q3s,a1,a2,a3,a4,a5,a6,a7,a8,a9,aa,ab,ac,M0,M1,Q0,Q1,R0x,R9x,R1x]
    have sw:∀ {hp':Heap},hget hp' kr=some ⟨30,1,xr,HC2⟩ -> hget hp' (ρ i)=some ⟨38,3,xs i,RH⟩ -> (∀ q,N+2 <= q -> q < M -> q ≠ kr -> q ≠ ρ i -> hget hp' q=hget hp q) -> RowsH hp' (N+2) M kr l.length (n+1) xr (fun q=>if q=r then ρ i else if q=i then ρ r else ρ q) (fun q=>if q < 0 \/ q=r then pivR (swapR S.M r i) r k q else swapR S.M r i q) (fun q=>if q=r then xs i else if q=i then xs r else xs q):=fun h1 h2 h3=>H.swap him htm (by rw [h1,e2]) (by rw [h2,eRH]) h3
    have bB:=swap_RB rb him htm
    have bP:=piv_RB bB (Nat.mul_pos (by omega) (Nat.pow_pos (by omega))) htm (show k < n+1 by omega)
    have pr:∀ j,pivR (swapR S.M r i) r k r j=swapR S.M r i r j / swapR S.M r i r k:=fun j=>by unfold pivR;rw [if_pos rfl]
    have po:∀ q,q ≠ r -> ∀ j,pivR (swapR S.M r i) r k q j=swapR S.M r i q j - swapR S.M r i q k * pivR (swapR S.M r i) r k r j:=fun q hq j=>by rw [pr];unfold pivR;rw [if_neg hq]
    obtain ⟨ρ',eρ⟩:∃ f:Nat -> Nat,f=fun q=>if q=r then ρ i else if q=i then ρ r else ρ q:=⟨_,rfl⟩
    have pbd:∀ q,q < l.length -> ∃ t,t < l.length /\ ρ' q=ρ t:=fun q hq=>by
     rw [eρ]
     by_cases x1:q=r
     ·exact ⟨i,him,by simp only [if_pos x1]⟩
     ·by_cases x2:q=i
      ·exact ⟨r,htm,by simp only [if_neg x1,if_pos x2]⟩
      ·exact ⟨q,hq,by simp only [if_neg x1,if_neg x2]⟩
    have pri:ρ' r=ρ i:=by rw [eρ];exact if_pos rfl
    rw [<- eρ] at sw e2
    obtain ⟨P,eP⟩:∃ f:Mat,f=pivR (swapR S.M r i) r k:=⟨_,rfl⟩
    rw [<- eP] at sw bP pr po eS'
    obtain ⟨B,eB⟩:∃ f:Mat,f=swapR S.M r i:=⟨_,rfl⟩
    rw [<- eB] at sw bB pr po
    refine lp_parts (fun c2 tm hp2 nx=>∃ (j M2:Nat) (xs2:Nat -> Bool),c2+j=l.length /\ tmget tm 55 = .int .i64 n /\ tmget tm 56 = .int .i64 k /\ tmget tm 4 = .pointer (some ⟨N+0,0,none⟩) /\ tmget tm 5 = .pointer (some ⟨N+1,0,none⟩) /\
      tmget tm 11 = .pointer (some ⟨M+0,0,none⟩) /\ tmget tm 12 = .int .i64 r /\ tmget tm 14 = .pointer (some ⟨M+1,0,none⟩) /\ tmget tm 105 = .slice (some ⟨kr,0,none⟩) l.length l.length /\ tmget tm 106 = .int .i64 l.length /\ tmget tm 107 = .int .i64 j /\
      hget hp2 (M+0)=some ⟨3,1,true,[.int .i64 k]⟩ /\ hget hp2 (M+1)=some ⟨30,1,true,[.slice (some ⟨ρ i,0,none⟩) (n+1) (n+1)]⟩ /\
      RowsH hp2 (N+2) M kr l.length (n+1) xr ρ' (fun q=>if q < j \/ q=r then P q else B q) xs2 /\ (∀ q,q < M -> q ≠ kr -> (∀ t,t < l.length -> ρ t ≠ q) -> hget hp2 q=hget hp q) /\ M+3 <= M2 /\ nx=M2+0) ?_ l.length
     ⟨0,M+3,_,by omega,?_,?_,?_,?_,?_,?_,?_,?_,?_,?_,?_,?_,sw ?_ ?_ ?_,?_,Nat.le_refl _,rfl⟩
    rotate_left
    all_goals first | (simp only [↓R0,R1,simprocAttr,-Int.reduceAbs,t55,t56,t4,t5,a1,a2,a6,a7,a8,a9];done) | (simp only [↓R0,R1,simprocAttr,-Int.reduceAbs,t55,t56,t4,t5,a1,a2,a6,a7,a8,a9];rfl) | skip
    ·intro q q1 q2 q3 q4
     have nb:∀ j,(M+j=q)=False:=fun j=>eq_false (by omega)
     have nb1:(kr=q)=False:=eq_false (fun e=>q3 e.symm)
     have nb2:(ρ i=q)=False:=eq_false (fun e=>q4 e.symm)
     simp only [↓R0,R1,simprocAttr,-Int.reduceAbs,nb,nb1,nb2]
    ·intro q q1 q2 q3
     have nb:∀ j,(M+j=q)=False:=fun j=>eq_false (by omega)
     have nb1:(kr=q)=False:=eq_false (fun e=>q2 e.symm)
     have nb2:(ρ i=q)=False:=eq_false (q3 i him)
     simp only [↓R0,R1,simprocAttr,-Int.reduceAbs,nb,nb1,nb2]
    clear sw s1 s2 l1 HCi HCr ea hri gk lk t55 t56 t4 t5
    rintro c2 tm hp2 nx ⟨j,M2,xs2,hc2,t55,t56,t4,t5,t11,t12,t14,t105,t106,t107,bk0,bk1,HJ,hh2,hM2,hnx⟩
    rw [hnx]
    clear hnx nx
    have c1b:hget hp2 (N+1)=hget hp (N+1):=hh2 _ (by omega) (by omega) (fun t ht e=>by have:=H.bd t ht;omega)
    have c0b:hget hp2 (N+0)=hget hp (N+0):=hh2 _ (by omega) (by omega) (fun t ht e=>by have:=H.bd t ht;omega)
    rw [b1] at c1b
    rw [b0] at c0b
    have g0:∀ d,(M2+d=M+0)=False:=fun d=>eq_false (by omega)
    have g1:∀ d,(M2+d=M+1)=False:=fun d=>eq_false (by omega)
    have g2:∀ d,(M=M2+d)=False:=fun d=>eq_false (by omega)
    have g3:(M=M2)=False:=eq_false (by omega)
    have g4:∀ d,(M+1=M2+d)=False:=fun d=>eq_false (by omega)
    have g5:(M+1=M2)=False:=eq_false (by omega)
    have g6:∀ d,(M+0=M2+d)=False:=fun d=>eq_false (by omega)
    have n0:∀ d,(M2+d=N+0)=False:=fun d=>eq_false (by omega)
    have n1:∀ d,(M2+d=N+1)=False:=fun d=>eq_false (by omega)
    have n2:∀ d,(N+1=M2+d)=False:=fun d=>eq_false (by omega)
    have n3:∀ d,(N+0=M2+d)=False:=fun d=>eq_false (by omega)
    have n4:∀ d,(N=M2+d)=False:=fun d=>eq_false (by omega)
    have n5:(N=M2)=False:=eq_false (by omega)
    have n6:(N+1=M2)=False:=eq_false (by omega)
    have m1:∀ d,(M2+d=kr)=False:=fun d=>eq_false (by omega)
    have m2:∀ d,(kr=M2+d)=False:=fun d=>eq_false (by omega)
    have wj:IntKind.i64.wrap ((j:Int)+1)=((j+1:Nat):Int):=by rw [i64_in _ (by omega)];omega
    by_cases cj:j < l.length
    case neg=>
     have ej:j=l.length:=by omega
     subst ej
     have cj':((l.length:Int) < (l.length:Int))=False:=eq_false (by omega)
     have HP:RowsH hp2 (N+2) M kr l.length (n+1) xr ρ' P xs2:=HJ.congr fun q hq t _=>by simp only [if_pos (Or.inl hq:q < l.length \/ q=r)]
     have HQ:∀ {hp':Heap},(∀ q,N+2 <= q -> q < M -> hget hp' q=hget hp2 q) -> RowsH hp' (N+2) (M2+2) kr l.length (n+1) xr ρ' P xs2:=fun h=>HP.mono (by omega) h
     rcases HS with ⟨z,rfl⟩ | ⟨z,kh,xh,rfl,h2,h3,h4,h5,h6⟩
     ·have r0:r=0:=by rw [<- er,z];rfl
      rw [r0] at c1b
      simp only [↓R0,R1,simprocAttr,-Int.reduceAbs,t55,t56,t4,t5,t11,t12,t14,t105,t106,t107,bk0,bk1,c0b,c1b,cj',wk,g0,g1,g2,g3,g4,g5,g6,n0,n1,n2,n3,n4,n5,n6,m1,m2]
      refine ⟨c - 1,by omega,k+1,M2+2,kr,xr,ρ',xs2,some ⟨M2+1,0,none⟩,by omega,rfl,?_,?_,?_,fun q hq=>?_,by omega,rfl⟩
      ·rw [eS',z];rfl
      ·rw [eS']
       refine HQ fun q q1 q2=>?_
       have nb:∀ j,(M2+j=q)=False:=fun j=>eq_false (by omega)
       have nb1:(N+1=q)=False:=eq_false (by omega)
       simp only [↓R0,R1,simprocAttr,-Int.reduceAbs,nb,nb1]
      ·rw [eS',z]
       refine .inr ⟨by simp,M2+1,false,rfl,?_,by omega,by omega,by omega,fun t ht=>by have:=HJ.bd t ht;omega⟩
       simp only [↓R0,R1,simprocAttr,-Int.reduceAbs,n0,n1,n2,n3,n4,n5,n6,m1,m2]
       rfl
      ·have nb:∀ j,(M2+j=q)=False:=fun j=>eq_false (by omega)
       have nb1:(N+1=q)=False:=eq_false (by omega)
       simp only [↓R0,R1,simprocAttr,-Int.reduceAbs,nb,nb1]
       rw [hh2 q (by omega) (by omega) (fun t ht=>by have:=H.bd t ht;omega)]
       exact hh q hq
     ·have hkh2:hget hp2 kh=some ⟨3,1,xh,intC S.hs⟩:=by rw [hh2 kh h4 h5 h6];exact h2
      have lI:(intC S.hs).length=r:=by unfold intC;rw [List.length_map,er]
      have aI:intC S.hs ++ [.int .i64 (k:Nat)]=intC (S.hs ++ [k]):=by unfold intC;rw [List.map_append];rfl
      have nler:(r+1 <= r)=False:=eq_false (by omega)
      have ovr:((r+1) * 8 <= 140737488355328)=True:=eq_true (by omega)
      have v1:∀ d,(M2+d=kh)=False:=fun d=>eq_false (by omega)
      have v2:∀ d,(kh=M2+d)=False:=fun d=>eq_false (by omega)
      have v3:(kh=N+1)=False:=eq_false (by omega)
      have v4:(N+1=kh)=False:=eq_false (by omega)
      have v5:(kh=N+0)=False:=eq_false (by omega)
      generalize intC S.hs=IC0 at *
      generalize eIC:intC (S.hs ++ [k])=IC1 at *
      simp only [↓R0,R1,simprocAttr,-Int.reduceAbs,t55,t56,t4,t5,t11,t12,t14,t105,t106,t107,bk0,bk1,c0b,c1b,cj',wk,hkh2,lI,aI,nler,ovr,v1,v2,v3,v4,v5,g0,g1,g2,g3,g4,g5,g6,n0,n1,n2,n3,n4,n5,n6,m1,m2]
      refine ⟨c - 1,by omega,k+1,M2+2,kr,xr,ρ',xs2,some ⟨M2+1,0,none⟩,by omega,rfl,?_,?_,?_,fun q hq=>?_,by omega,rfl⟩
      ·rw [eS']
       simp only [List.length_append,List.length_cons,List.length_nil,er]
      ·rw [eS']
       refine (HP.mono2 (hi':=M2+2) (by omega) fun q hq=>?_)
       have qb:N+2 <= q /\ q < M /\ q ≠ kh:=by
        rcases hq with e | ⟨t,ht,e⟩
        ·rw [e];exact ⟨by omega,by omega,fun x=>h5 x.symm⟩
        ·obtain ⟨t',ht',et⟩:=pbd t ht
         have:=H.bd t' ht'
         have:=h6 t' ht'
         rw [e,et]
         exact ⟨by omega,by omega,this⟩
       have nb:∀ j,(M2+j=q)=False:=fun j=>eq_false (by omega)
       have nb1:(N+1=q)=False:=eq_false (by omega)
       have nb2:(kh=q)=False:=eq_false (fun e=>qb.2.2 e.symm)
       simp only [↓R0,R1,simprocAttr,-Int.reduceAbs,nb,nb1,nb2]
      ·rw [eS']
       refine .inr ⟨by simp,M2+1,false,rfl,?_,by omega,by omega,by omega,fun t ht=>by have:=HJ.bd t ht;omega⟩
       simp only [↓R0,R1,simprocAttr,-Int.reduceAbs,n0,n1,n2,n3,n4,n5,n6,m1,m2,v1,v2,v3]
       exact congrArg _ (by rw [eIC])
      ·have nb:∀ j,(M2+j=q)=False:=fun j=>eq_false (by omega)
       have nb1:(N+1=q)=False:=eq_false (by omega)
       have nb2:(kh=q)=False:=eq_false (by omega)
       simp only [↓R0,R1,simprocAttr,-Int.reduceAbs,nb,nb1,nb2]
       rw [hh2 q (by omega) (by omega) (fun t ht=>by have:=H.bd t ht;omega)]
       exact hh q hq
    have cj':((j:Int) < (l.length:Int))=True:=eq_true (by omega)
    have hdj:=HJ.hd
    have lHj:=hdrC_len ρ' (n+1) l.length
    have HCj:=hdrC_at ρ' (n+1) cj
    have rj:=HJ.row j cj
    have bj:=HJ.bd j cj
    have nj:=HJ.ne j cj
    have gk:=rowC_at (if j < j \/ j=r then P j else B j) ckn
    have lk:=rowC_len (if j < j \/ j=r then P j else B j) (n+1)
    have u1:∀ d,(M2+d=ρ' j)=False:=fun d=>eq_false (by omega)
    have u2:∀ d,(ρ' j=M2+d)=False:=fun d=>eq_false (by omega)
    have u3:(ρ' j=M+0)=False:=eq_false (by omega)
    have u4:(ρ' j=M+1)=False:=eq_false (by omega)
    have u5:(ρ' j=N+1)=False:=eq_false (by omega)
    have u6:(ρ' j=N+0)=False:=eq_false (by omega)
    have u7:(ρ' j=kr)=False:=eq_false nj
    have u8:(M+1=ρ' j)=False:=eq_false (by omega)
    have u9:(M=ρ' j)=False:=eq_false (by omega)
    have sM2:∀ (b b':Option Blk) q,q < M2 -> hget ((M2+0,b) :: (M2+0,b') :: hp2) q=hget hp2 q:=fun b b' q hq=>by simp only [hget,show (M2+0=q)=False from eq_false (by omega),if_false]
    rw [<- e2] at hdj lHj HCj
    by_cases jr:j=r
    ·have jr':((j:Int)=(r:Int))=True:=eq_true (by omega)
     have jr2:(j=r)=True:=eq_true jr
     generalize eRJ:rowC (if j < j \/ j=r then P j else B j) (n+1)=RJ at *
     simp only [↓R0,R1,simprocAttr,-Int.reduceAbs,rdS,t55,t56,t4,t5,t11,t12,t14,t105,t106,t107,bk0,bk1,c0b,c1b,cj,cj',hdj,lHj,HCj,rj,gk,lk,k3,kw,ckn,rE_l3',rE_o3',q3z,q3t,q3s,wj,jr',jr2,g0,g1,g2,g3,g4,g5,g6,n0,n1,n2,n3,n4,n5,n6,m1,m2,u1,u2,u3,u4,u5,u6,u7,u8,u9,Bool.not_true,Bool.not_false]
     refine ⟨c2 - 1,by omega,j+1,M2+1,xs2,by omega,rfl,(HJ.mono (Nat.le_refl _) (fun q q1 q2=>sM2 _ _ q (by omega))).congr (fun q hq t _=>?_),fun q q1 q2 q3=>?_,by omega,rfl⟩
     ·have:(q < j \/ q=r)=(q < j+1 \/ q=r):=propext (by omega)
      simp only [this]
     ·have nb:∀ d,(M2+d=q)=False:=fun j=>eq_false (by omega)
      simp only [↓R0,R1,simprocAttr,-Int.reduceAbs,nb]
      exact hh2 q q1 q2 q3
    ·have jr':((j:Int)=(r:Int))=False:=eq_false (by omega)
     have jr2:(j=r)=False:=eq_false jr
     have eBj:(if j < j \/ j=r then P j else B j)=B j:=if_neg (by omega)
     rw [eBj] at rj gk lk
     have bjk:=bB j cj k ckn
     have sg:=qSign_rE (bjk.le (k:=268435456) (by omega)) (by omega)
     by_cases z:B j k=0
     ·have z':=(num_zero _).2 z
      rw [z'] at sg
      generalize eRJ:rowC (B j) (n+1)=RJ at *
      simp only [↓R0,R1,simprocAttr,-Int.reduceAbs,rdS,upS,t55,t56,t4,t5,t11,t12,t14,t105,t106,t107,bk0,bk1,c0b,c1b,cj,cj',hdj,lHj,HCj,rj,gk,lk,k3,kw,ckn,rE_l3',rE_o3',q3z,q3t,q3s,wj,jr',jr2,g0,g1,g2,g3,g4,g5,g6,n0,n1,n2,n3,n4,n5,n6,m1,m2,u1,u2,u3,u4,u5,u6,u7,u8,u9,Bool.not_true,Bool.not_false,sg]
      refine ⟨c2 - 1,by omega,j+1,M2+1,xs2,by omega,rfl,(HJ.mono (Nat.le_refl _) (fun q q1 q2=>sM2 _ _ q (by omega))).congr (fun q hq t _=>?_),fun q q1 q2 q3=>?_,by omega,rfl⟩
      ·by_cases ej:q=j
       ·subst ej
        rw [if_neg (by omega),if_pos (by omega),po q jr,z,Rat.zero_mul]
        grind
       ·have:(q < j \/ q=r)=(q < j+1 \/ q=r):=propext (by omega)
        simp only [this]
      ·have nb:∀ d,(M2+d=q)=False:=fun j=>eq_false (by omega)
       simp only [↓R0,R1,simprocAttr,-Int.reduceAbs,nb]
       exact hh2 q q1 q2 q3
     ·have z':((B j k).num.sign=0)=False:=eq_false fun e=>z ((num_zero _).1 e)
      have hrr:=HJ.row r htm
      rw [pri] at hrr
      have eRr:(if r < j \/ r=r then P r else B r)=P r:=if_pos (.inr rfl)
      rw [eRr] at hrr
      have rne:ρ i ≠ ρ' j:=fun e=>jr (HJ.inj j r cj htm (by rw [pri];exact e.symm))
      have w1:(ρ' j=ρ i)=False:=eq_false (fun e=>rne e.symm)
      have w2:(ρ i=ρ' j)=False:=eq_false rne
      have w3:∀ d,(M2+d=ρ i)=False:=fun d=>eq_false (by omega)
      have ea3:∀ {hp':Heap},hget hp' (ρ' j)=some ⟨38,3,xs2 j,rowC (B j) (n+1)⟩ -> hget hp' (M2+0)=some ⟨38,3,true,rE (B j k)⟩ -> hget hp' (M+1)=some ⟨30,1,true,[.slice (some ⟨ρ i,0,none⟩) (n+1) (n+1)]⟩ -> hget hp' (ρ i)=some ⟨38,3,xs2 r,rowC (P r) (n+1)⟩ ->
        spEach [.slice (some ⟨ρ' j,0,none⟩) (n+1) (n+1),.func (.func 67) #[] ⟨[.pointer (some ⟨M2+0,0,none⟩),.pointer (some ⟨M+1,0,none⟩)]⟩] hp'=some (.tuple ⟨[]⟩,ρ' j,⟨38,3,xs2 j,rowC (fun t=>B j t - B j k * P r t) (n+1)⟩):=
       fun h1 h2 h3 h4=>each3_of h1 h2 h3 h4 (fun t ht=>(bB j cj t ht).le (by omega)) (fun t ht=>(bP r htm t ht).le (by omega)) (bjk.le (by omega)) (by omega) (by omega) (by omega) rne
      have ePj:rowC (fun t=>B j t - B j k * P r t) (n+1)=rowC (P j) (n+1):=rowC_congr fun t _=>(po j jr t).symm
      rw [ePj] at ea3
      generalize eRJ:rowC (B j) (n+1)=RJ at *
      generalize eRP:rowC (P j) (n+1)=RP at *
      generalize rowC (P r) (n+1)=RR at *
      simp only [↓R0,R1,simprocAttr,-Int.reduceAbs,rdS,upS,t55,t56,t4,t5,t11,t12,t14,t105,t106,t107,bk0,bk1,c0b,c1b,cj,cj',hdj,lHj,HCj,rj,gk,lk,k3,kw,ckn,rE_l3',rE_o3',q3z,q3t,q3s,wj,jr',jr2,g0,g1,g2,g3,g4,g5,g6,n0,n1,n2,n3,n4,n5,n6,m1,m2,u1,u2,u3,u4,u5,u6,u7,u8,u9,Bool.not_true,Bool.not_false,sg,z',hrr,w1,w2,w3,ea3]
      refine ⟨c2 - 1,by omega,j+1,M2+1,_,by omega,rfl,HJ.upd (Nat.le_refl _) cj (x:=xs2 j) ?_ (fun q hq qj=>?_) (fun q q1 q2 qj=>?_),fun q q1 q2 q3=>?_,by omega,rfl⟩
      ·simp only [↓R0,R1,simprocAttr,-Int.reduceAbs]
       rw [if_pos (by omega),eRP]
      ·have:(q < j \/ q=r)=(q < j+1 \/ q=r):=propext (by omega)
       simp only [this]
      ·have nb:∀ d,(M2+d=q)=False:=fun j=>eq_false (by omega)
       have nb1:(ρ' j=q)=False:=eq_false (fun e=>qj e.symm)
       simp only [↓R0,R1,simprocAttr,-Int.reduceAbs,nb,nb1]
      ·have nb:∀ d,(M2+d=q)=False:=fun j=>eq_false (by omega)
       have nb1:(ρ' j=q)=False:=eq_false (fun e=>by
        obtain ⟨t,ht,et⟩:=pbd j cj
        exact q3 t ht (by rw [<- et];exact e))
       simp only [↓R0,R1,simprocAttr,-Int.reduceAbs,nb,nb1]
       exact hh2 q q1 q2 q3
def spChk1:List Value -> Heap -> Option Value
 | [.agg ⟨[.slice _ len _,_,_,_,_]⟩,.pointer (some ⟨k,0,none⟩)],h=>match hget h k with
  | some ⟨_,_,_,[.int .i64 n]⟩=>some (.bool (decide ((len:Int) ≠ n)))
  | _=>none
 | _,_=>none
def c58:ICode:=
 (.seq (.reg [qq 2 (.box 40 5 (.t 0)),qq 3 (.mv (.c (.bool false)))]) (.seq (.reg [qq 4 (.faddr 0 (.t 2)),qq 5 (.load false 1 (.t 4)),qq 6 (.lensl (.t 5)),qq 7 (.load false 1 (.t 1)),qq 8 (.bin .neq (.t 6) (.t 7)),qq 3 (.mv (.t 8))]) .ret))
theorem tr58:trFun Tryz.prog 58=some ⟨9,[.t 3],c58⟩:=by kernel_rfl
theorem ok_chk1:SpecOK Tryz.prog 58 (rdS spChk1):=by
 refine rd_run (env_nil _) mixed tr58 ?_ ?_
 ·intro args h h' v hle e
  unfold spChk1 at e ⊢
  split at e
  ·split at e
   ·rename_i b1
    simp only [hle _ _ b1];exact e
   ·cases e
  ·cases e
 intro args v h N hG hN
 unfold spChk1 at hG
 split at hG
 case h_2=>cases hG
 rename_i a len c v1 v2 v3 v4 k
 split at hG
 case h_2=>cases hG
 rename_i e z x n hb
 cases hG
 have nk:=hN _ _ hb
 refine ⟨by rfl,by simp,?_⟩
 have Nk:∀ j,(N+j=k)=False:=fun j=>eq_false (by omega)
 have dn:∀ a b:Int,decide (a ≠ b)=!decide (a=b):=fun a b=>by by_cases h:a=b <;> simp [h]
 simp only [c58,G0,Nat.reduceAdd]
 simp only [↓R0,R1,simprocAttr,-Int.reduceAbs,Nk,hb,dn,Fin,isEnd,resL,res1]
 exact ⟨_,rfl,rfl,fun k hk=>by simp only [ne_nb hk,if_false]⟩
def cfE (n:Int) (l:List EqR):Int:=fidx (fun e:EqR=>decide ((e.coef.length:Int) ≠ n)) l 0
def spIdxE:List Value -> Heap -> Option Value
 | [sl,.func (.func f) ⟨[]⟩ ⟨[.pointer (some ⟨k,0,none⟩)]⟩],h=>match decRows h sl,hget h k with
  | some l,some ⟨_,_,_,[.int .i64 n]⟩=>if f=58 /\ l.length <= 1000 then some (.int .i64 (cfE n l)) else none
  | _,_=>none
 | _,_=>none
theorem spIdxE_mono {args:List Value} {h h':Heap} {v:Value} (hl:hle h h') (e:spIdxE args h=some v):spIdxE args h'=some v:=by
 unfold spIdxE at e ⊢
 split at e
 ·split at e
  ·rename_i l n hb hc
   simp only [decRows_mono hl hb,hl _ _ hc];exact e
  ·cases e
 ·cases e
def c89:ICode:=
 (.seq (.reg [qq 4 (.mv (ci 0))]) (.seq (.seq (.reg [qq 6 (.mv (.t 0)),qq 7 (.lensl (.t 6)),qq 8 (.mv (ci 0))]) (.block 0 (.loop (.seq (.reg [qq 9 (.bin .lss (.t 8) (.t 7))]) (.seq (.cond (.t 9) .skip (.exit 0)) (.seq (.block 1 (.seq (.reg [qq 10 (.mv (.t 8)),qq 5 (.mv (.t 10))]) (.seq (.reg [qq 11 (.mv (.t 1)),qq 12 (.mv (.t 0)),qq 13 (.mv (.t 5)),qq 14 (.ixsl 5 (.t 12) (.t 13)),qq 15 (.load true 5 (.t 14)),qq 16 (.callv (.t 11) [(.t 15)])]) (.cond (.t 16) (.seq (.reg [qq 17 (.mv (.t 5)),qq 4 (.mv (.t 17))]) .ret) .skip)))) (.reg [qq 18 (.bin .add (.t 8) (ci 1)),qq 8 (.mv (.t 18))]))))))) (.seq (.reg [qq 4 (.mv (ci (-1)))]) .ret)))
theorem tr89:trFun Tryz.prog 89=some ⟨19,[.t 4],c89⟩:=by kernel_rfl
set_option maxHeartbeats 4000000 in
theorem ok_idxE:SpecOK Tryz.prog 89 (rdS spIdxE):=by
 refine rd_run (env_cons ok_chk1 (env_nil _)) mixed tr89 (fun _ _ _ _=>spIdxE_mono) ?_
 intro args v h N hG hN
 unfold spIdxE at hG
 split at hG
 case h_2=>cases hG
 rename_i sl f kn
 split at hG
 case h_2=>cases hG
 rename_i l ne nz nx0 n hx hb0
 split at hG
 case isFalse=>cases hG
 rename_i hs
 obtain ⟨rfl,hn⟩:=hs
 cases hG
 obtain ⟨a,c,rfl⟩:=listAt_sl (dec:=decEq h) hx
 refine ⟨by rfl,by simp,?_⟩
 simp only [c89,G0,Nat.reduceAdd]
 simp only [↓R0,R1,simprocAttr,-Int.reduceAbs]
 refine lp_parts (fun q tm hp nx=>∃ (i M:Nat),q+i=l.length /\ tmget tm 0 = .slice a l.length c /\ tmget tm 1 = .func (.func 58) ⟨[]⟩ ⟨[.pointer (some ⟨kn,0,none⟩)]⟩ /\ tmget tm 7 = .int .i64 l.length /\ tmget tm 8 = .int .i64 i /\ (∀ j' p,j' < i -> l[j']?=some p -> decide ((p.coef.length:Int) ≠ n)=false) /\ (∀ q,q < N -> hget hp q=hget h q) /\ N <= M /\ nx=M+0) ?_ l.length
  ⟨0,N,by omega,?_,?_,?_,?_,fun j' p hj=>absurd hj (Nat.not_lt_zero _),?_,Nat.le_refl _,rfl⟩
 rotate_left
 all_goals first | (simp only [↓R0,R1,simprocAttr,-Int.reduceAbs];done) | (simp only [↓R0,R1,simprocAttr,-Int.reduceAbs];rfl) | skip
 ·exact fun q _=>rfl
 rintro q tm hp nx ⟨i,M,hni,t0,t1,t7,t8,hall,hh,hM,hnx⟩
 rw [hnx]
 clear hnx nx
 have w1:IntKind.i64.wrap ((i:Int)+1)=((i+1:Nat):Int):=by rw [i64_in _ (by omega)];omega
 by_cases c1:i < l.length
 case neg=>
  have e:i=l.length:=by omega
  subst e
  have c1':((l.length:Int) < (l.length:Int))=False:=eq_false (by omega)
  rw [show cfE n l=-1 from fidx_miss (fun j' p hj hp=>hall j' p hj hp)]
  simp only [↓R0,R1,simprocAttr,-Int.reduceAbs,t0,t1,t7,t8,c1',Fin,isEnd,resL,res1]
  exact ⟨_,rfl,rfl,hh⟩
 have c1':((i:Int) < (l.length:Int))=True:=eq_true (by omega)
 obtain ⟨k,off,blk,a',n',c',ea,hb,q1,q2,hn',hl'⟩:=eq_at hx c1
 subst ea
 have hbb:hget hp k=some blk:=by rw [hh k (hN _ _ hb)];exact hb
 have hb0':hget hp kn=some ⟨ne,nz,nx0,[.int .i64 n]⟩:=by rw [hh kn (hN _ _ hb0)];exact hb0
 have ck:spChk1 [.agg ⟨.slice a' n' c' :: (eqAt l i).tl⟩,.pointer (some ⟨kn,0,none⟩)] hp=some (.bool (decide (((eqAt l i).coef.length:Int) ≠ n))):=by
  rw [<- hn']
  unfold spChk1 EqR.tl
  simp only [hb0']
 have pt:=eqAt_some c1
 generalize Value.slice a' n' c' :: (eqAt l i).tl=C5 at *
 by_cases z:((eqAt l i).coef.length:Int) ≠ n
 ·rw [decide_eq_true z] at ck
  rw [show cfE n l=(i:Int) from fidx_hit hall pt (decide_eq_true z)]
  simp only [↓R0,R1,simprocAttr,-Int.reduceAbs,rdS,callF,List.append_nil,t0,t1,t7,t8,c1,c1',hbb,q1,q2,ck,Fin,isEnd,resL,res1]
  exact ⟨_,rfl,rfl,hh⟩
 ·rw [decide_eq_false z] at ck
  have hall':∀ j' p,j' < i+1 -> l[j']?=some p -> decide ((p.coef.length:Int) ≠ n)=false:=fun j' p hj hp=>by
   by_cases e:j'=i
   ·subst e;rw [pt] at hp;cases hp;exact decide_eq_false z
   ·exact hall j' p (by omega) hp
  simp only [↓R0,R1,simprocAttr,-Int.reduceAbs,rdS,callF,List.append_nil,t0,t1,t7,t8,c1,c1',hbb,q1,q2,ck,w1]
  exact ⟨q - 1,by omega,i+1,M,by omega,rfl,hall',hh,hM,rfl⟩
def spConE (args:List Value) (h:Heap):Option Value:=match spIdxE args h with
 | some (.int .i64 z)=>some (.bool (decide (0 <= z)))
 | _=>none
def c57:ICode:=
 (.seq (.reg [qq 4 (.mv (.c (.bool false)))]) (.seq (.reg [qq 5 (.mv (.t 0)),qq 6 (.mv (.t 1)),qq 7 (.call 89 [(.t 5),(.t 6)]),qq 8 (.bin .geq (.t 7) (ci 0)),qq 4 (.mv (.t 8))]) .ret))
theorem tr57:trFun Tryz.prog 57=some ⟨9,[.t 4],c57⟩:=by kernel_rfl
theorem ok_conE:SpecOK Tryz.prog 57 (rdS spConE):=by
 refine rd_run (env_cons ok_idxE (env_nil _)) mixed tr57 ?_ ?_
 ·intro args h h' v hle e
  unfold spConE at e ⊢
  split at e
  ·rename_i z hz
   rw [spIdxE_mono hle hz];exact e
  ·cases e
 intro args v h N hG hN
 unfold spConE at hG
 split at hG
 case h_2=>cases hG
 rename_i z hz
 cases hG
 have hz':=hz
 unfold spIdxE at hz'
 split at hz'
 case h_2=>cases hz'
 rename_i sl f kn
 clear hz'
 refine ⟨by rfl,by simp,?_⟩
 simp only [c57,G0,Nat.reduceAdd]
 simp only [↓R0,R1,simprocAttr,-Int.reduceAbs,rdS,hz,ge_iff_le,Fin,isEnd,resL,res1]
 exact ⟨_,rfl,rfl,fun k hk=>by simp only [ne_nb hk,if_false]⟩
def chkL (n:Int) (l:List EqR):Int:=if n < 0 \/ n > 100 \/ l.length > 100 then 6 else if ∀ e ∈ l,(e.coef.length:Int)=n then 0 else 1
theorem fidx_nn {α:Type} {p:α -> Bool}:∀ {l:List α} {i:Nat},(0 <= fidx p l i) ↔ ∃ x ∈ l,p x=true
 | [],i=>by simp [fidx]
 | x :: l,i=>by
  unfold fidx
  by_cases h:p x=true
  ·rw [if_pos h]
   exact ⟨fun _=>⟨x,List.mem_cons_self,h⟩,fun _=>by omega⟩
  ·rw [if_neg h,fidx_nn (l:=l) (i:=i+1)]
   constructor
   ·rintro ⟨y,hy,hp⟩;exact ⟨y,List.mem_cons_of_mem _ hy,hp⟩
   ·rintro ⟨y,hy,hp⟩
    rcases List.mem_cons.1 hy with e | e
    ·rw [e] at hp;exact absurd hp h
    ·exact ⟨y,e,hp⟩
def spLCheck:List Value -> Heap -> Option Value
 | [.int .i64 n,sl],h=>match decRows h sl with
  | some l=>some (.int .i64 (chkL n l))
  | none=>none
 | _,_=>none
def c38:ICode:=
 (.seq (.reg [qq 2 (.box 3 1 (.t 0)),qq 4 (.mv (ci 0))]) (.seq (.block 0 (.seq (.reg [qq 6 (.load false 1 (.t 2)),qq 7 (.bin .lss (.t 6) (ci 0)),qq 8 (.mv (.t 7)),⟨(some 9),(some (8,false)),(.load false 1 (.t 2))⟩,⟨(some 10),(some (8,false)),(.bin .gtr (.t 9) (ci 100))⟩,qq 11 (.pick (.t 8) (.c (.bool true)) (.t 10)),qq 12 (.mv (.t 11)),⟨(some 13),(some (12,false)),(.mv (.t 1))⟩,⟨(some 14),(some (12,false)),(.lensl (.t 13))⟩,⟨(some 15),(some (12,false)),(.bin .gtr (.t 14) (ci 100))⟩,qq 16 (.pick (.t 12) (.c (.bool true)) (.t 15)),qq 5 (.mv (.t 16))]) (.cond (.t 5) (.seq (.reg [qq 4 (.mv (ci 6))]) .ret) (.seq (.reg [qq 18 (.mv (.t 1)),qq 19 (.mkfn 58 [(.t 2)]),qq 20 (.call 57 [(.t 18),(.t 19)]),qq 17 (.mv (.t 20))]) (.cond (.t 17) (.seq (.reg [qq 4 (.mv (ci 1))]) .ret) .skip))))) (.seq (.reg [qq 4 (.mv (ci 0))]) .ret)))
theorem tr38:trFun Tryz.prog 38=some ⟨21,[.t 4],c38⟩:=by kernel_rfl
set_option maxHeartbeats 4000000 in
theorem ok_linCheck:SpecOK Tryz.prog 38 (rdS spLCheck):=by
 refine rd_run (env_cons ok_conE (env_nil _)) mixed tr38 ?_ ?_
 ·intro args h h' v hle e
  unfold spLCheck at e ⊢
  split at e
  ·split at e
   ·rename_i l hb
    simp only [decRows_mono hle hb];exact e
   ·cases e
  ·cases e
 intro args v h N hG hN
 unfold spLCheck at hG
 split at hG
 case h_2=>cases hG
 rename_i n sl
 split at hG
 case h_2=>cases hG
 rename_i l hx
 cases hG
 obtain ⟨a,c,rfl⟩:=listAt_sl (dec:=decEq h) hx
 refine ⟨by rfl,by simp,?_⟩
 by_cases c1:n < 0
 ·have e:chkL n l=6:=if_pos (.inl c1)
  rw [e]
  have c1':(n < 0)=True:=eq_true c1
  simp only [c38,G0,Nat.reduceAdd]
  simp only [↓R0,R1,simprocAttr,-Int.reduceAbs,c1',Fin,isEnd,resL,res1]
  exact ⟨_,rfl,rfl,fun k hk=>by simp only [ne_nb hk,if_false]⟩
 have c1':(n < 0)=False:=eq_false c1
 by_cases c2:n > 100
 ·have e:chkL n l=6:=if_pos (.inr (.inl c2))
  rw [e]
  have c2':(n > 100)=True:=eq_true c2
  simp only [c38,G0,Nat.reduceAdd]
  simp only [↓R0,R1,simprocAttr,-Int.reduceAbs,c1',c2',Fin,isEnd,resL,res1]
  exact ⟨_,rfl,rfl,fun k hk=>by simp only [ne_nb hk,if_false]⟩
 have c2':(n > 100)=False:=eq_false c2
 by_cases c3:l.length > 100
 ·have e:chkL n l=6:=if_pos (.inr (.inr c3))
  rw [e]
  have c3':((l.length:Int) > 100)=True:=eq_true (by omega)
  simp only [c38,G0,Nat.reduceAdd]
  simp only [↓R0,R1,simprocAttr,-Int.reduceAbs,c1',c2',c3',Fin,isEnd,resL,res1]
  exact ⟨_,rfl,rfl,fun k hk=>by simp only [ne_nb hk,if_false]⟩
 have c3':((l.length:Int) > 100)=False:=eq_false (by omega)
 have cn:∀ b,spConE [.slice a l.length c,.func (.func 58) #[] ⟨[.pointer (some ⟨N+0,0,none⟩)]⟩] ((N+0,some ⟨3,1,true,[.int .i64 n]⟩) :: b)=(match decRows ((N+0,some ⟨3,1,true,[.int .i64 n]⟩) :: b) (.slice a l.length c) with | some l=>if l.length <= 1000 then some (.bool (decide (0 <= cfE n l))) else none | none=>none):=fun b=>by
  unfold spConE spIdxE
  have hg:hget ((N+0,some ⟨3,1,true,[.int .i64 n]⟩) :: b) (N+0)=some ⟨3,1,true,[.int .i64 n]⟩:=by simp only [hget,if_true]
  simp only [hg]
  cases decRows ((N+0,some ⟨3,1,true,[.int .i64 n]⟩) :: b) (.slice a l.length c) with
  | none=>rfl
  | some l'=>
   simp only [true_and]
   by_cases z:l'.length <= 1000
   ·rw [if_pos z,if_pos z]
   ·rw [if_neg z,if_neg z]
 have dr:∀ b:Option Blk,decRows ((N+0,b) :: h) (.slice a l.length c)=some l:=fun b=>decRows_mono (fun k b' e=>by
  have:=hN _ _ e
  simp only [hget,show (N+0=k)=False from eq_false (by omega),if_false];exact e) hx
 have dr2:∀ b b':Option Blk,decRows ((N+0,b) :: (N+0,b') :: h) (.slice a l.length c)=some l:=fun b b'=>decRows_mono (fun k b'' e=>by
  have:=hN _ _ e
  simp only [hget,show (N+0=k)=False from eq_false (by omega),if_false];exact e) hx
 have l1000:(l.length <= 1000)=True:=eq_true (by omega)
 have ff:=fidx_nn (p:=fun e:EqR=>decide ((e.coef.length:Int) ≠ n)) (l:=l) (i:=0)
 have ov:¬ (n < 0 \/ n > 100 \/ l.length > 100):=fun h=>h.elim c1 (fun h=>h.elim c2 c3)
 by_cases c4:∀ e ∈ l,(e.coef.length:Int)=n
 ·have e:chkL n l=0:=by unfold chkL;rw [if_neg ov,if_pos c4]
  rw [e]
  have f0:(0 <= cfE n l)=False:=eq_false (fun h=>by
   obtain ⟨x,hx,hp⟩:=ff.1 h
   exact (of_decide_eq_true hp) (c4 x hx))
  simp only [c38,G0,Nat.reduceAdd]
  simp only [↓R0,R1,simprocAttr,-Int.reduceAbs,rdS,c1',c2',c3',cn,dr,dr2,l1000,f0,Fin,isEnd,resL,res1]
  exact ⟨_,rfl,rfl,fun k hk=>by simp only [ne_nb hk,if_false]⟩
 ·have e:chkL n l=1:=by unfold chkL;rw [if_neg ov,if_neg c4]
  rw [e]
  have f0:(0 <= cfE n l)=True:=eq_true (ff.2 (by
   refine Classical.byContradiction fun hn=>c4 fun e he=>Classical.byContradiction fun hne=>hn ⟨e,he,decide_eq_true hne⟩))
  simp only [c38,G0,Nat.reduceAdd]
  simp only [↓R0,R1,simprocAttr,-Int.reduceAbs,rdS,c1',c2',c3',cn,dr,dr2,l1000,f0,Fin,isEnd,resL,res1]
  exact ⟨_,rfl,rfl,fun k hk=>by simp only [ne_nb hk,if_false]⟩
structure StOK (n:Nat) (L:List (Nat × Row)) (hs:List Int):Prop where
 n8:n <= 100
 m:L.length <= 1000
 w:∀ p ∈ L,p.1=n+1
 r:hs.length <= L.length
 lt:∀ x ∈ hs,0 <= x /\ x < n
instance {n:Nat} {L:List (Nat × Row)} {hs:List Int}:Decidable (StOK n L hs):=
 decidable_of_iff (n <= 100 /\ L.length <= 1000 /\ (∀ p ∈ L,p.1=n+1) /\ hs.length <= L.length /\ ∀ x ∈ hs,0 <= x /\ x < n) ⟨fun ⟨a,b,c,d,e⟩=>⟨a,b,c,d,e⟩,fun ⟨a,b,c,d,e⟩=>⟨a,b,c,d,e⟩⟩
def offz:Option Addr -> Bool
 | none=>true
 | some ⟨_,0,none⟩=>true
 | _=>false
def decS (h:Heap):List Value -> Option (Nat × List (Nat × Row) × List Int)
 | [.int .i64 n,.slice a m c,.slice a' r c']=>match listAt 1 (decRow h) h (.slice a m c),listAt 1 decN h (.slice a' r c') with
  | some L,some hs=>if 0 <= n /\ m=c /\ offz a=true /\ StOK n.toNat L hs then some (n.toNat,L,hs) else none
  | _,_=>none
 | _=>none
theorem decS_eq {h:Heap} {cs:List Value} {n:Nat} {L:List (Nat × Row)} {hs:List Int} (e:decS h cs=some (n,L,hs)) :
  ∃ a a' c',cs=[.int .i64 n,.slice a L.length L.length,.slice a' hs.length c'] /\ listAt 1 (decRow h) h (.slice a L.length L.length)=some L /\ listAt 1 decN h (.slice a' hs.length c')=some hs /\ StOK n L hs /\ ((a=none /\ L=[]) \/ ∃ k,a=some ⟨k,0,none⟩):=by
 unfold decS at e
 split at e
 ·rename_i n0 a m c a' r c'
  split at e
  ·rename_i L' hs' h1 h2
   split at e
   ·rename_i hc
    obtain ⟨z,rfl,z2,z3⟩:=hc
    cases e
    obtain ⟨n,rfl⟩:=Int.eq_ofNat_of_zero_le z
    rw [Int.toNat_natCast] at *
    have e1:L.length=m:=by obtain ⟨x,y,e⟩:=listAt_sl h1;injection e with _ e _;exact e.symm
    have e2:hs.length=r:=by obtain ⟨x,y,e⟩:=listAt_sl h2;injection e with _ e _;exact e.symm
    subst e1 e2
    refine ⟨a,a',c',rfl,h1,h2,z3,?_⟩
    unfold offz at z2
    split at z2
    ·refine .inl ⟨rfl,?_⟩
     by_cases hL:L.length=0
     ·exact List.eq_nil_of_length_eq_zero hL
     ·obtain ⟨k,off,blk,ea,_⟩:=listAt_get h1 (by omega)
      cases ea
    ·exact .inr ⟨_,rfl⟩
    ·cases z2
   ·cases e
  ·cases e
 ·cases e
theorem decS_of {h:Heap} {n:Nat} {L:List (Nat × Row)} {hs:List Int} {a a':Option Addr} {c':Nat} (h1:listAt 1 (decRow h) h (.slice a L.length L.length)=some L) (h2:listAt 1 decN h (.slice a' hs.length c')=some hs) (z:offz a=true) (ok:StOK n L hs) :
  decS h [.int .i64 n,.slice a L.length L.length,.slice a' hs.length c']=some (n,L,hs):=by
 unfold decS
 simp only [h1,h2,Int.toNat_natCast]
 exact if_pos ⟨by omega,trivial,z,ok⟩
theorem decS_mono {h h':Heap} (hl:hle h h') {cs:List Value} {x:Nat × List (Nat × Row) × List Int} (e:decS h cs=some x):decS h' cs=some x:=by
 unfold decS at e ⊢
 split at e
 ·split at e
  ·rename_i L hs h1 h2
   simp only [listAt_mono hl (fun _ _ e=>decRow_mono hl e) h1,listAt_mono hl (fun _ _ e=>e) h2];exact e
  ·cases e
 ·cases e
theorem many_drop {α:Type} {dec:List Value -> Option α}:∀ {m r:Nat} {cs:List Value} {L:List α},many 1 dec m cs=some L -> r <= m -> many 1 dec (m - r) (cs.drop r)=some (L.drop r)
 | m,0,cs,L,h,_=>h
 | 0,r+1,cs,L,h,hr=>by omega
 | m+1,r+1,cs,L,h,hr=>by
  unfold many at h
  split at h
  ·rename_i a l h1 h2
   cases h
   have:=many_drop (r:=r) h2 (by omega)
   rw [List.drop_drop] at this
   rw [Nat.add_sub_add_right,List.drop_succ_cons,Nat.add_comm r 1]
   exact this
  ·cases h
theorem drop_list {α:Type} {dec:List Value -> Option α} {h:Heap} {k m r:Nat} {L:List α} (e:listAt 1 dec h (.slice (some ⟨k,0,none⟩) m m)=some L) (hr:r <= m) :
  ∃ a n c,mkSl k 0 1 m r m = .slice a n c /\ n=m - r /\ listAt 1 dec h (.slice a n c)=some (L.drop r):=by
 have hl:L.length=m:=by obtain ⟨x,y,e⟩:=listAt_sl e;injection e with _ e _;exact e.symm
 unfold mkSl
 by_cases z:m=r
 ·rw [if_pos z]
  exact ⟨_,0,0,rfl,by omega,by rw [List.drop_of_length_le (by omega)];rfl⟩
 ·rw [if_neg z]
  refine ⟨_,_,_,rfl,rfl,?_⟩
  obtain ⟨k',off,blk,ea,hb,_,hle,_⟩:=listAt_get e (by omega)
  cases ea
  unfold listAt at e ⊢
  rw [Option.bind_eq_some_iff] at e
  obtain ⟨cs,e1,e2⟩:=e
  have la:lay 1 h (.slice (some ⟨k,0,none⟩) m m)=some ((blk.cells.drop 0).take (m * 1)):=by
   obtain ⟨d,rfl⟩:∃ d,m=d+1:=⟨m - 1,by omega⟩
   unfold lay
   simp only [hb]
   rw [if_pos ⟨by omega,hle⟩]
  have lb:lay 1 h (.slice (some ⟨k,0+r * 1,none⟩) (m - r) (m - r))=some ((blk.cells.drop (0+r * 1)).take ((m - r) * 1)):=by
   obtain ⟨d,hd⟩:∃ d,m - r=d+1:=⟨m - r - 1,by omega⟩
   unfold lay
   rw [hd]
   simp only [hb]
   rw [if_pos ⟨by omega,by omega⟩]
  rw [la] at e1
  cases e1
  rw [lb]
  show many 1 dec (m - r) _=_
  have e2':many 1 dec m ((blk.cells.drop 0).take (m * 1))=some L:=e2
  have:=many_drop e2' hr
  rw [List.drop_zero,List.drop_take,Nat.mul_one] at this
  rw [Nat.zero_add,Nat.mul_one,Nat.mul_one]
  exact this
def clashL (n:Nat) (L:List (Nat × Row)) (r:Nat):Bool:=decide (∃ x ∈ L.drop r,x.2 n ≠ 0)
def spClash:List Value -> Heap -> Option Value
 | [.agg ⟨cs⟩],h=>match decS h cs with
  | some (n,L,hs)=>some (.bool (clashL n L hs.length))
  | none=>none
 | _,_=>none
def c40:ICode:=
 (.seq (.reg [qq 1 (.box 65 3 (.t 0)),qq 2 (.mv (.c (.bool false)))]) (.seq (.reg [qq 3 (.faddr 1 (.t 1)),qq 4 (.load false 1 (.t 3)),qq 5 (.faddr 2 (.t 1)),qq 6 (.load false 1 (.t 5)),qq 7 (.lensl (.t 6)),qq 8 (.slsl 1 (.t 4) (some (.t 7)) none),qq 9 (.mkfn 71 [(.t 1)]),qq 10 (.call 70 [(.t 8),(.t 9)]),qq 2 (.mv (.t 10))]) .ret))
theorem tr40:trFun Tryz.prog 40=some ⟨11,[.t 2],c40⟩:=by kernel_rfl
set_option maxHeartbeats 4000000 in
theorem ok_clash:SpecOK Tryz.prog 40 (rdS spClash):=by
 refine rd_run (env_cons ok_conR (env_nil _)) mixed tr40 ?_ ?_
 ·intro args h h' v hle e
  unfold spClash at e ⊢
  split at e
  ·split at e
   ·rename_i x n L hs hb
    simp only [decS_mono hle hb];exact e
   ·cases e
  ·cases e
 intro args v h N hG hN
 unfold spClash at hG
 split at hG
 case h_2=>cases hG
 rename_i cs
 split at hG
 case h_2=>cases hG
 rename_i x n L hs hx
 cases hG
 obtain ⟨a,a',c',rfl,h1,h2,ok,ha⟩:=decS_eq hx
 refine ⟨by rfl,by simp,?_⟩
 have HL:∀ b,hle h ((N+0,b) :: h):=fun b k b'' e=>by
  have:=hN _ _ e
  simp only [hget,show (N+0=k)=False from eq_false (by omega),if_false];exact e
 have r0:=ok.r
 have rm':((hs.length:Int) <= (L.length:Int))=True:=eq_true (by omega)
 have sc:∀ b v1 v2,spCol 71 [.pointer (some ⟨N+0,0,none⟩)] ((N+0,some ⟨65,3,true,[.int .i64 n,v1,v2]⟩) :: b)=some n:=fun b v1 v2=>by
  unfold spCol
  rw [if_neg (by decide),if_pos rfl]
  simp only [hget,if_true]
  rw [if_pos (by omega),Int.toNat_natCast]
 rcases ha with ⟨rfl,rfl⟩ | ⟨k,rfl⟩
 ·have hr:hs.length=0:=by simpa using r0
  have cn:∀ b v1 v2,spConR [.slice none 0 0,.func (.func 71) #[] ⟨[.pointer (some ⟨N+0,0,none⟩)]⟩] ((N+0,some ⟨65,3,true,[.int .i64 n,v1,v2]⟩) :: b)=some (.bool false):=fun b v1 v2=>by
   unfold spConR
   rw [show spIdxR [.slice none 0 0,.func (.func 71) #[] ⟨[.pointer (some ⟨N+0,0,none⟩)]⟩] ((N+0,some ⟨65,3,true,[.int .i64 n,v1,v2]⟩) :: b)=_ from idx_nil (sc b v1 v2)]
   rfl
  have ec:clashL n [] hs.length=false:=decide_eq_false (by simp)
  rw [ec,hr]
  simp only [c40,G0,Nat.reduceAdd]
  simp only [↓R0,R1,simprocAttr,-Int.reduceAbs,rdS,cn,List.length_nil,Fin,isEnd,resL,res1]
  exact ⟨_,rfl,rfl,fun k hk=>by simp only [ne_nb hk,if_false]⟩
 ·obtain ⟨a2,n2,c2,e1,e2,e3⟩:=drop_list h1 ok.r
  have cn:∀ v1 v2,spConR [mkSl k 0 1 L.length hs.length L.length,.func (.func 71) #[] ⟨[.pointer (some ⟨N+0,0,none⟩)]⟩] ((N+0,some ⟨65,3,true,[.int .i64 n,v1,v2]⟩) :: h)=some (.bool (clashL n L hs.length)):=fun v1 v2=>by
   unfold spConR
   rw [e1,show spIdxR [.slice a2 n2 c2,.func (.func 71) #[] ⟨[.pointer (some ⟨N+0,0,none⟩)]⟩] ((N+0,some ⟨65,3,true,[.int .i64 n,v1,v2]⟩) :: h)=_ from spIdxR_of (listAt_mono (HL _) (fun _ _ e=>decRow_mono (HL _) e) e3) (sc _ v1 v2) (fun p hp=>by
    have:=ok.w p (List.mem_of_mem_drop hp)
    have:=ok.n8
    omega) (by have:=ok.m;omega)]
   show some (Value.bool (decide (0 <= fidx _ _ 0)))=_
   congr 2
   unfold clashL
   refine decide_eq_decide.2 (fidx_nn.trans ?_)
   constructor
   ·rintro ⟨x,hx,hp⟩;exact ⟨x,hx,of_decide_eq_true hp⟩
   ·rintro ⟨x,hx,hp⟩;exact ⟨x,hx,decide_eq_true hp⟩
  simp only [c40,G0,Nat.reduceAdd]
  simp only [↓R0,R1,simprocAttr,-Int.reduceAbs,rdS,rm',r0,cn,Fin,isEnd,resL,res1]
  exact ⟨_,rfl,rfl,fun k hk=>by simp only [ne_nb hk,if_false]⟩
def intNL (l:List Nat):NewL:=
 if l=[] then ⟨0,fun _ => .slice none 0 0,fun _=>0,fun _=>0,fun _ _=>[]⟩
 else ⟨1,fun σ => .slice (some ⟨σ 0,0,none⟩) l.length l.length,fun _=>3,fun _=>1,fun _ _=>intC l⟩
theorem intNL_par (l:List Nat) (h:Heap):(intNL l).Par h:=by
 unfold intNL
 split
 ·exact ⟨fun β σ σ' _ _ => .base _ rfl,fun β σ σ' _ _ i hi=>absurd hi (Nat.not_lt_zero i)⟩
 ·exact ⟨fun β σ σ' b1 _=>VR.sl (σ 0) 0 _ _ ⟨σ' 0,0,[]⟩ (b1 0 Nat.one_pos),fun β σ σ' _ _ i hi=>VRs.of_base (intC_base l)⟩
def OutI (hp:Heap) (lo hi:Nat) (sl:Value) (out:List Nat):Prop:=
 (out=[] /\ sl = .slice none 0 0) \/ (out ≠ [] /\ ∃ kk x,sl = .slice (some ⟨kk,0,none⟩) out.length out.length /\ hget hp kk=some ⟨3,1,x,intC out⟩ /\ lo <= kk /\ kk < hi)
def LL (n m:Nat) (s:LS):List (Nat × Row):=(List.range m).map fun i=>(n+1,rdQ (rowC (s.M i) (n+1)))
theorem LL_len (n m:Nat) (s:LS):(LL n m s).length=m:=by unfold LL;rw [List.length_map,List.length_range]
theorem LL_get {n m:Nat} {s:LS} {i:Nat} (h:i < m):(LL n m s)[i]?=some (n+1,rdQ (rowC (s.M i) (n+1))):=by unfold LL;rw [List.getElem?_map,List.getElem?_range h];rfl
def HZ (s:LS):List Int:=s.hs.map fun (k:Nat)=>((k:Nat):Int)
theorem HZ_len (s:LS):(HZ s).length=s.hs.length:=by unfold HZ;rw [List.length_map]
theorem HZ_get {s:LS} {p:Nat} (h:p < s.hs.length):(HZ s)[p]?=some ((hd s.hs p:Nat):Int):=by
 unfold HZ hd
 rw [List.getElem?_map,List.getElem?_eq_getElem h];rfl
theorem LL_st {n m:Nat} {s:LS} (I:RInv m n s) (hn:n <= 8) (hm:m <= 100):StOK n (LL n m s) (HZ s) where
 n8:=by omega
 m:=by rw [LL_len];omega
 w:=fun p hp=>by
  unfold LL at hp
  obtain ⟨i,_,rfl⟩:=List.mem_map.1 hp
  rfl
 r:=by rw [LL_len,HZ_len];exact I.r
 lt:=fun x hx=>by
  obtain ⟨p,hp⟩:=List.getElem?_of_mem hx
  have hlt:=(List.getElem?_eq_some_iff.1 hp).1
  rw [HZ_len] at hlt
  rw [HZ_get hlt] at hp
  cases hp
  have:=I.lt p hlt
  omega
theorem rows_LL {hp:Heap} {lo hi kr m n:Nat} {xr:Bool} {ρ:Nat -> Nat} {s:LS} {xs:Nat -> Bool} (H:RowsH hp lo hi kr m (n+1) xr ρ s.M xs) (m0:0 < m) (hB:∀ q,q < m -> ∀ j,j < n+1 -> RB (s.M q j) 268435456) :
  listAt 1 (decRow hp) hp (.slice (some ⟨kr,0,none⟩) m m)=some (LL n m s):=by
 have hlen:=hdrC_len ρ (n+1) m
 obtain ⟨d,hd⟩:∃ d,m=d+1:=⟨m - 1,by omega⟩
 unfold listAt
 have la:lay 1 hp (.slice (some ⟨kr,0,none⟩) m m)=some (hdrC ρ (n+1) m):=by
  unfold lay
  rw [hd]
  simp only [H.hd]
  rw [if_pos ⟨by omega,by rw [hlen];omega⟩,<- hd,List.drop_zero,List.take_of_length_le (by omega)]
 rw [la]
 show many 1 (decRow hp) m _=_
 refine many_some (LL_len n m s) fun i p hp'=>?_
 have hi:i < m:=by
  have:=(List.getElem?_eq_some_iff.1 hp').1
  rw [LL_len] at this;exact this
 rw [LL_get hi] at hp'
 cases hp'
 have ct:((hdrC ρ (n+1) m).drop (i * 1)).take 1=[.slice (some ⟨ρ i,0,none⟩) (n+1) (n+1)]:=by
  have g:=hdrC_at ρ (n+1) (m:=m) hi
  have hlt:i < (hdrC ρ (n+1) m).length:=by omega
  rw [Nat.mul_one,List.drop_eq_getElem_cons hlt]
  rw [List.getElem?_eq_getElem hlt] at g
  rw [Option.some.inj g];rfl
 rw [ct]
 exact decRow_of (H.row i hi) (Nat.le_refl _) rfl (rowB_of (hB i hi))
theorem heads_HZ {hp:Heap} {lo hi kr m:Nat} {ρ:Nat -> Nat} {s:LS} {ah:Option Addr} (H:HeadS hp lo hi kr m ρ s.hs ah):listAt 1 decN hp (.slice ah s.hs.length s.hs.length)=some (HZ s):=by
 rcases H with ⟨z,rfl⟩ | ⟨z,kh,xh,rfl,h2,_,_,_,_⟩
 ·unfold HZ
  rw [z];rfl
 ·have lI:(intC s.hs).length=s.hs.length:=by unfold intC;rw [List.length_map]
  obtain ⟨d,hd⟩:∃ d,s.hs.length=d+1:=⟨s.hs.length - 1,by have:=List.length_pos_iff.2 z;omega⟩
  unfold listAt
  have la:lay 1 hp (.slice (some ⟨kh,0,none⟩) s.hs.length s.hs.length)=some (intC s.hs):=by
   unfold lay
   rw [hd]
   simp only [h2]
   rw [if_pos ⟨by omega,by rw [lI];omega⟩,List.drop_zero,List.take_of_length_le (by rw [lI];omega)]
  rw [la]
  show many 1 decN s.hs.length _=_
  refine many_some (HZ_len s) fun i p hp'=>?_
  have hi:i < s.hs.length:=by
   have:=(List.getElem?_eq_some_iff.1 hp').1
   rw [HZ_len] at this;exact this
  rw [HZ_get hi] at hp'
  cases hp'
  have hlt:i < (intC s.hs).length:=by omega
  have g:(intC s.hs)[i]?=some (.int .i64 ((Go.Eng.hd s.hs i:Nat):Int)):=by
   unfold intC Go.Eng.hd
   rw [List.getElem?_map,List.getElem?_eq_getElem hi];rfl
  rw [Nat.mul_one,List.drop_eq_getElem_cons hlt]
  rw [List.getElem?_eq_getElem hlt] at g
  rw [Option.some.inj g];rfl
theorem clash_LL {n m:Nat} {s:LS}:clashL n (LL n m s) (HZ s).length=decide (clashM n m s):=by
 unfold clashL
 refine decide_eq_decide.2 ?_
 rw [HZ_len]
 unfold clashM
 constructor
 ·rintro ⟨x,hx,hn⟩
  obtain ⟨i,hi⟩:=List.getElem?_of_mem hx
  rw [List.getElem?_drop] at hi
  have hlt:=(List.getElem?_eq_some_iff.1 hi).1
  rw [LL_len] at hlt
  rw [LL_get hlt] at hi
  cases hi
  exact ⟨s.hs.length+i,by omega,hlt,by rw [<- rdQ_row (f:=s.M (s.hs.length+i)) (n:=n+1) (j:=n) (by omega)];exact hn⟩
 ·rintro ⟨i,h1,h2,h3⟩
  refine ⟨(n+1,rdQ (rowC (s.M i) (n+1))),?_,by show rdQ _ n ≠ 0;rw [rdQ_row (by omega)];exact h3⟩
  refine List.mem_of_getElem? (i:=i - s.hs.length) ?_
  rw [List.getElem?_drop,show s.hs.length+(i - s.hs.length)=i by omega,LL_get h2]
theorem plain_of {h:Heap} {n:Nat} {l:List EqR} {sl:Value} (hx:decRows h sl=some l) (hs:PlOK n l):spPlain [.int .i64 n,sl] h=some (plainNL n l.length (redK l.length (eqM n l) n)):=by
 unfold spPlain
 simp only [hx,Int.toNat_natCast]
 exact if_pos hs
theorem plain_call {h : Heap} {n b : Nat} {l : List EqR} {sl : Value} (hx : decRows h sl = some l) (hs : PlOK n l) (hb : ∀ k blk, hget h k = some blk → k < b) :
    ∃ V D mm, nwL spPlain [.int .i64 n, sl] h b = some (V, D, mm) ∧ (∀ q, q < b → hget (D ++ h) q = hget h q) ∧
      ((l.length = 0 ∧ V = .agg ⟨[.int .i64 n, .slice none 0 0, .slice none 0 0]⟩) ∨
       (0 < l.length ∧ ∃ ah, V = .agg ⟨[.int .i64 n, .slice (some ⟨b, 0, none⟩) l.length l.length, .slice ah (redK l.length (eqM n l) n).hs.length (redK l.length (eqM n l) n).hs.length]⟩ ∧
        RowsH (D ++ h) b (b + mm) b l.length (n + 1) false (fun j => b + (j + 1)) (redK l.length (eqM n l) n).M (fun _ => false) ∧ HeadS (D ++ h) b (b + mm) b l.length (fun j => b + (j + 1)) (redK l.length (eqM n l) n).hs ah)) := by
  have hr := (red_inv l.length (eqM n l) n).r
  obtain ⟨NL, eN⟩ : ∃ x, x = plainNL n l.length (redK l.length (eqM n l) n) := ⟨_, rfl⟩
  have e : nwL spPlain [.int .i64 n, sl] h b = some (NL.val (b + ·), newH NL (b + ·) NL.m, NL.m) := by
    unfold nwL
    rw [plain_of hx hs, eN]; rfl
  refine ⟨_, _, _, e, fun q hq => newH_old NL.m (fun i _ => by show b + i ≠ q; omega), ?_⟩
  have get := newH_get (r := NL) (σ := (b + ·)) (h := h) NL.m (fun i j _ _ e => by change b + i = b + j at e; omega)
  generalize redK l.length (eqM n l) n = s at *
  by_cases m0 : l.length = 0
  · refine .inl ⟨m0, ?_⟩
    have hs0 : s.hs = [] := List.eq_nil_of_length_eq_zero (by omega)
    rw [eN]
    exact (plainNL_0 m0 hs0).2 _
  refine .inr ⟨by omega, if s.hs = [] then none else some ⟨b + (l.length + 1), 0, none⟩, ?_, ?_, ?_⟩
  · rw [eN]
    show Value.agg ⟨[_, if l.length = 0 then _ else _, if s.hs = [] then _ else _]⟩ = _
    rw [if_neg m0]
    by_cases z : s.hs = []
    · rw [if_pos z, if_pos z, z]; rfl
    · rw [if_neg z, if_neg z]; rfl
  · have pm : l.length + 1 ≤ NL.m := by
      rw [eN]
      show _ ≤ if l.length = 0 then 0 else if s.hs = [] then _ else _
      rw [if_neg m0]; split <;> omega
    constructor
    · have := get 0 (by omega)
      change hget _ b = _ at this
      rw [this, eN]
      rfl
    · intro j hj
      have := get (j + 1) (by omega)
      change hget _ (b + (j + 1)) = _ at this
      rw [this, eN]
      simp only [plainNL, if_neg (show ¬ j + 1 = 0 by omega), if_pos (show j + 1 ≤ l.length by omega), Nat.add_sub_cancel]
    · intro i j _ _ e; omega
    · intro j _; omega
    · intro j hj; omega
    · omega
  · by_cases z : s.hs = []
    · rw [if_pos z]; exact .inl ⟨z, rfl⟩
    · rw [if_neg z]
      have pm : NL.m = l.length + 2 := by
        rw [eN]
        show (if l.length = 0 then 0 else if s.hs = [] then _ else _) = _
        rw [if_neg m0, if_neg z]
      have := get (l.length + 1) (by omega)
      change hget _ (b + (l.length + 1)) = _ at this
      refine .inr ⟨z, b + (l.length + 1), false, rfl, ?_, by omega, by omega, by omega, fun j hj => by show b + (j + 1) ≠ _; omega⟩
      rw [this, eN]
      simp only [plainNL, if_neg (show ¬ l.length + 1 = 0 by omega), if_neg (show ¬ l.length + 1 ≤ l.length by omega)]
def ratC (l:List Rat):List Value:=l.flatMap rE
def solNL (r:Int × List Rat):NewL:=
 if r.2=[] then ⟨0,fun _ => .tuple ⟨[.slice none 0 0,.int .i64 r.1]⟩,fun _=>0,fun _=>0,fun _ _=>[]⟩
 else ⟨1,fun σ => .tuple ⟨[.slice (some ⟨σ 0,0,none⟩) r.2.length r.2.length,.int .i64 r.1]⟩,fun _=>38,fun _=>3,fun _ _=>ratC r.2⟩
theorem ratC_base (l:List Rat):(ratC l).all isBase=true:=by
 rw [List.all_eq_true]
 intro v hv
 unfold ratC at hv
 rw [List.mem_flatMap] at hv
 obtain ⟨q,_,h⟩:=hv
 have:(rE q).all isBase=true:=rfl
 exact List.all_eq_true.1 this v h
theorem solNL_par (r:Int × List Rat) (h:Heap):(solNL r).Par h:=by
 unfold solNL
 split
 ·exact ⟨fun β σ σ' _ _ => .tup _ _ (.cons _ _ _ _ (.base _ rfl) (.cons _ _ _ _ (.base _ rfl) .nil)),fun β σ σ' _ _ i hi=>absurd hi (Nat.not_lt_zero i)⟩
 ·exact ⟨fun β σ σ' b1 _ => .tup _ _ (.cons _ _ _ _ (VR.sl (σ 0) 0 _ _ ⟨σ' 0,0,[]⟩ (b1 0 Nat.one_pos)) (.cons _ _ _ _ (.base _ rfl) .nil)),fun β σ σ' _ _ i hi=>VRs.of_base (ratC_base _)⟩
def SysOK (n:Int) (l:List EqR):Prop:=chkL n l=0 -> PlOK n l
instance {n:Int} {l:List EqR}:Decidable (SysOK n l):=by unfold SysOK;infer_instance
def lsOf (n:Nat) (l:List EqR):LS:=redK l.length (eqM n l) n
def solveL (n:Int) (l:List EqR):Int × List Rat:=if chkL n l=0 then solveK 14 17 n.toNat l.length (lsOf n.toNat l) else (chkL n l,[])
def freeVL (n:Int) (l:List EqR):List Nat:=if chkL n l=0 /\ ¬ clashM n.toNat l.length (lsOf n.toNat l) then freeK n.toNat (lsOf n.toNat l) else []
def rankL (n:Int) (l:List EqR):Nat:=if chkL n l=0 then (lsOf n.toNat l).hs.length else 0
def spSolve:List Value -> Heap -> Option NewL
 | [.int .i64 n,sl],h=>match decRows h sl with
  | some l=>if SysOK n l then some (solNL (solveL n l)) else none
  | none=>none
 | _,_=>none
theorem decS_rows {HP:Heap} {lo M kr n m:Nat} {xr:Bool} {ρ:Nat -> Nat} {s:LS} {xs:Nat -> Bool} {ah:Option Addr} (H:RowsH HP lo M kr m (n+1) xr ρ s.M xs) (HS:HeadS HP lo M kr m ρ s.hs ah) (m0:0 < m) (I:RInv m n s) (hn:n <= 8) (hm:m <= 100) (hB:∀ q,q < m -> ∀ j,j < n+1 -> RB (s.M q j) 268435456)
  {hp:Heap} (he:ExtL M HP hp):decS hp [.int .i64 n,.slice (some ⟨kr,0,none⟩) m m,.slice ah s.hs.length s.hs.length]=some (n,LL n m s,HZ s):=by
 have H':=H.mono (hp':=hp) (Nat.le_refl _) (fun q _ q2=>he q q2)
 have HS':=HS.mono (hp':=hp) (Nat.le_refl _) (fun q _ q2 _ _=>he q q2)
 have a:=rows_LL H' m0 hB
 have b:=heads_HZ HS'
 have c:=decS_of (h:=hp) (n:=n) (L:=LL n m s) (hs:=HZ s) (a:=some ⟨kr,0,none⟩) (a':=ah) (c':=s.hs.length) (by rw [LL_len];exact a) (by rw [HZ_len];exact b) rfl (LL_st I hn hm)
 rw [LL_len,HZ_len] at c
 exact c
theorem decS_nil {n:Nat} {s:LS} (hs:s.hs=[]) (hn:n <= 8) (hp:Heap):decS hp [.int .i64 n,.slice none 0 0,.slice none 0 0]=some (n,LL n 0 s,HZ s):=by
 have e1:LL n 0 s=[]:=rfl
 have e2:HZ s=[]:=by unfold HZ;rw [hs];rfl
 rw [e1,e2]
 exact decS_of (h:=hp) (n:=n) (L:=[]) (hs:=[]) (a:=none) (a':=none) (c':=0) rfl rfl rfl ⟨by omega,by simp,by simp,by simp,by simp⟩
theorem clash_of {hp:Heap} {n m:Nat} {s:LS} {cs:List Value} (e:decS hp cs=some (n,LL n m s,HZ s)):spClash [.agg ⟨cs⟩] hp=some (.bool (decide (clashM n m s))):=by
 unfold spClash
 simp only [e]
 rw [clash_LL]
theorem ratC_len:∀ l:List Rat,(ratC l).length=l.length * 3
 | []=>rfl
 | q :: l=>by
  have:=ratC_len l
  unfold ratC at this ⊢
  rw [List.flatMap_cons,List.length_append,this,List.length_cons,Nat.succ_mul]
  show 3+_=_;omega
def valsI (n:Nat) (s:LS) (i:Nat):List Rat:=(List.range i).map fun k=>s.M k n
theorem valsI_len (n:Nat) (s:LS) (i:Nat):(valsI n s i).length=i:=by unfold valsI;rw [List.length_map,List.length_range]
theorem valsI_succ (n:Nat) (s:LS) (i:Nat):ratC (valsI n s (i+1))=ratC (valsI n s i) ++ rE (s.M i n):=by
 unfold valsI ratC
 rw [List.range_succ,List.map_append,List.flatMap_append]
 simp
def OutQ (hp:Heap) (lo hi:Nat) (sl:Value) (n:Nat) (s:LS) (i:Nat):Prop:=
 (i=0 /\ sl = .slice none 0 0) \/ (0 < i /\ ∃ kk x,sl = .slice (some ⟨kk,0,none⟩) i i /\ hget hp kk=some ⟨38,3,x,ratC (valsI n s i)⟩ /\ lo <= kk /\ kk < hi)
def c16:ICode:=
 (.seq (.reg [qq 4 (.mv (.c (.slice none 0 0))),qq 5 (.mv (ci 0))]) (.seq (.seq (.reg [qq 11 (.mv (.t 0)),qq 12 (.mv (.t 1)),qq 13 (.call 38 [(.t 11),(.t 12)]),qq 6 (.mv (.t 13))]) (.seq (.reg [qq 14 (.mv (.t 6)),qq 15 (.bin .neq (.t 14) (ci 0))]) (.cond (.t 15) (.seq (.reg [qq 16 (.mv (.t 6)),qq 4 (.mv (.c (.slice none 0 0))),qq 5 (.mv (.t 16))]) .ret) .skip))) (.seq (.reg [qq 17 (.mv (.t 0)),qq 18 (.mv (.t 1)),qq 19 (.call 39 [(.t 17),(.t 18)]),qq 7 (.alloc 65 3 [(.int .i64 0),(.slice none 0 0),(.slice none 0 0)]),qn (.store 3 (.t 7) (.t 19))]) (.seq (.block 0 (.seq (.reg [qq 21 (.load true 3 (.t 7)),qq 22 (.call 40 [(.t 21)]),qq 20 (.mv (.t 22))]) (.cond (.t 20) (.seq (.reg [qq 4 (.mv (.c (.slice none 0 0))),qq 5 (.mv (ci 14))]) .ret) (.seq (.reg [qq 24 (.faddr 2 (.t 7)),qq 25 (.load false 1 (.t 24)),qq 26 (.lensl (.t 25)),qq 27 (.mv (.t 0)),qq 28 (.bin .lss (.t 26) (.t 27)),qq 23 (.mv (.t 28))]) (.cond (.t 23) (.seq (.reg [qq 4 (.mv (.c (.slice none 0 0))),qq 5 (.mv (ci 17))]) .ret) .skip))))) (.seq (.reg [qq 8 (.mv (.c (.slice none 0 0)))]) (.seq (.seq (.reg [qq 29 (.faddr 1 (.t 7)),qq 30 (.load false 1 (.t 29)),qq 31 (.mv (.t 0)),qq 32 (.slsl 1 (.t 30) none (some (.t 31))),qq 33 (.lensl (.t 32)),qq 34 (.mv (ci 0))]) (.block 1 (.loop (.seq (.reg [qq 35 (.bin .lss (.t 34) (.t 33))]) (.seq (.cond (.t 35) .skip (.exit 1)) (.seq (.block 2 (.seq (.reg [qq 36 (.ixsl 1 (.t 32) (.t 34)),qq 37 (.load false 1 (.t 36)),qq 10 (.mv (.t 37))]) (.reg [qq 38 (.mv (.t 8)),qq 39 (.mv (.t 10)),qq 40 (.mv (.t 0)),qq 41 (.ixsl 3 (.t 39) (.t 40)),qq 42 (.load true 3 (.t 41)),qq 43 (.bslice 38 3 1 [(.bool false),e0,e0] [(0,3,(.t 42))]),qq 44 (.app 38 3 40 (.t 38) (.t 43)),qq 8 (.mv (.t 44))]))) (.reg [qq 45 (.bin .add (.t 34) (ci 1)),qq 34 (.mv (.t 45))]))))))) (.seq (.reg [qq 46 (.mv (.t 8)),qq 4 (.mv (.t 46)),qq 5 (.mv (ci 0))]) .ret)))))))
theorem tr16:trFun Tryz.prog 16=some ⟨47,[.t 4,.t 5],c16⟩:=by kernel_rfl
set_option maxHeartbeats 8000000 in
theorem ok_solve:SpecOK Tryz.prog 16 (nwL spSolve):=by
 refine newL_run (env_cons ok_linCheck (env_cons ok_plain (env_cons ok_clash (env_nil _)))) mixed tr16 ?_ ?_
 ·intro args h h' r hle e
  unfold spSolve at e ⊢
  split at e
  ·split at e
   ·rename_i l hb
    simp only [decRows_mono hle hb];exact e
   ·cases e
  ·cases e
 intro args h N r hG hN
 unfold spSolve at hG
 split at hG
 case h_2=>cases hG
 rename_i n sl
 split at hG
 case h_2=>cases hG
 rename_i l hx
 split at hG
 case isFalse=>cases hG
 rename_i hs
 cases hG
 refine ⟨solNL_par _ _,by simp,?_⟩
 have ck:spLCheck [.int .i64 n,sl] h=some (.int .i64 (chkL n l)):=by unfold spLCheck;simp only [hx]
 have fin0:∀ (P:Prop),P -> P:=fun _ h=>h
 by_cases c0:chkL n l=0
 case neg=>
  have e:solveL n l=(chkL n l,[]):=if_neg c0
  have c0':(chkL n l=0)=False:=eq_false c0
  rw [e]
  simp only [c16,G0,Nat.reduceAdd]
  simp only [↓R0,R1,simprocAttr,-Int.reduceAbs,rdS,ck,c0',Bool.not_false,Bool.not_true,FinL,isEnd,resL,res1]
  exact ⟨fun i=>i,_,fun i hi=>absurd hi (Nat.not_lt_zero i),fun i j hi=>absurd hi (Nat.not_lt_zero i),rfl,rfl,fun i hi=>absurd hi (Nat.not_lt_zero i),fun k _=>trivial⟩
 rw [c0] at ck
 have ev:solveL n l=solveK 14 17 n.toNat l.length (lsOf n.toNat l):=if_pos c0
 rw [ev]
 obtain ⟨n,rfl⟩:=Int.eq_ofNat_of_zero_le (hs c0).n0
 have pk:=hs c0
 rw [Int.toNat_natCast]
 obtain ⟨V,D,mm,kc,gq,hV⟩:=plain_call (b:=N+0) hx pk hN
 obtain ⟨M,hM⟩:∃ M,M=N+mm:=⟨_,rfl⟩
 have eM:N+0+mm=M+0:=by omega
 have hbM:N+0+mm=M:=by omega
 rw [hbM] at hV
 have I:=red_inv l.length (eqM n l) n
 have rB:=red_RB pk.rb (b:=400) (by omega) (k:=n) (by omega)
 have p5:=pow5 (k:=n) (by have:=pk.n8;omega)
 have eL:redK l.length (eqM n l) n=lsOf n l:=rfl
 have hm:=pk.m
 have hn8:=pk.n8
 rw [eL] at hV I rB
 generalize eHP:D ++ h=HP at *
 have ac:∀ (d:Nat) (tm:List (Nat × Value)) (K:St -> Prop),@aft (some d) (some (V,D,mm)) ⟨(⟨tm,h,N+0⟩,K)⟩=K ⟨(d,V) :: tm,HP,M+0⟩:=fun _ _ _=>by rw [<- eM,<- eHP];exact propext Iff.rfl
 have xs0:ExtL M HP HP=True:=eq_true fun _ _=>rfl
 have xc:=fun j b hp=>extL_cons M j b HP hp
 have gM:N <= M:=by omega
 have nb:∀ q,q < N -> ∀ j,(M+j=q)=False:=fun q hq j=>eq_false (by omega)
 unfold solveK
 rcases hV with ⟨m0,rfl⟩ | ⟨m0,ah,rfl,H,HS⟩
 ·have hs0:(lsOf n l).hs=[]:=List.eq_nil_of_length_eq_zero (by have:=I.r;omega)
  have kl:∀ {hp:Heap},ExtL M HP hp -> spClash [.agg ⟨[.int .i64 n,.slice none 0 0,.slice none 0 0]⟩] hp=some (.bool (decide (clashM n l.length (lsOf n l)))):=fun {hp} _=>clash_of (by rw [m0];exact decS_nil hs0 (by omega) hp)
  have cl:¬ clashM n l.length (lsOf n l):=fun ⟨i,_,h2,_⟩=>by omega
  rw [decide_eq_false cl] at kl
  rw [if_neg cl,hs0]
  by_cases z:n=0
  ·have z':((0:Int) < (n:Int))=False:=eq_false (by omega)
   rw [if_neg (by simp [z])]
   have ez:((0:Int),valsK n (lsOf n l))=(0,[]):=by rw [z];rfl
   rw [ez]
   have nz:((n:Int) <= 0)=True:=eq_true (by omega)
   simp only [c16,G0,Nat.reduceAdd]
   simp only [↓R0,R1,simprocAttr,-Int.reduceAbs,rdS,ck,kc,ac,kl,z',nz,xs0,xc,List.length_nil,Bool.not_false,Bool.not_true]
   refine lp_step ?_
   simp only [↓R0,R1,simprocAttr,-Int.reduceAbs,FinL,isEnd,resL,res1]
   refine ⟨fun i=>i,_,fun i hi=>absurd hi (Nat.not_lt_zero i),fun i j hi=>absurd hi (Nat.not_lt_zero i),rfl,rfl,fun i hi=>absurd hi (Nat.not_lt_zero i),fun q hq=>?_⟩
   have nb:=nb q hq
   simp only [↓R0,R1,simprocAttr,-Int.reduceAbs,nb]
   exact gq q hq
  ·have z':((0:Int) < (n:Int))=True:=eq_true (by omega)
   have z2:(0 < n)=True:=eq_true (by omega)
   rw [if_pos (by simp;omega)]
   simp only [c16,G0,Nat.reduceAdd]
   simp only [↓R0,R1,simprocAttr,-Int.reduceAbs,rdS,ck,kc,ac,kl,xs0,xc,z',z2,List.length_nil,Bool.not_false,Bool.not_true,FinL,isEnd,resL,res1]
   refine ⟨fun i=>i,_,fun i hi=>absurd hi (Nat.not_lt_zero i),fun i j hi=>absurd hi (Nat.not_lt_zero i),rfl,rfl,fun i hi=>absurd hi (Nat.not_lt_zero i),fun q hq=>?_⟩
   have nb:=nb q hq
   simp only [↓R0,R1,simprocAttr,-Int.reduceAbs,nb]
   exact gq q hq
 have kl:∀ {hp:Heap},ExtL M HP hp -> spClash [.agg ⟨[.int .i64 n,.slice (some ⟨N+0,0,none⟩) l.length l.length,.slice ah (lsOf n l).hs.length (lsOf n l).hs.length]⟩] hp=some (.bool (decide (clashM n l.length (lsOf n l)))):=fun he=>clash_of (decS_rows H HS m0 I (by omega) hm (fun q hq j hj=>(rB q hq j hj).le (by omega)) he)
 by_cases cl:clashM n l.length (lsOf n l)
 ·rw [decide_eq_true cl] at kl
  rw [if_pos cl]
  simp only [c16,G0,Nat.reduceAdd]
  simp only [↓R0,R1,simprocAttr,-Int.reduceAbs,rdS,ck,kc,ac,kl,xs0,xc,Bool.not_false,Bool.not_true,FinL,isEnd,resL,res1]
  refine ⟨fun i=>i,_,fun i hi=>absurd hi (Nat.not_lt_zero i),fun i j hi=>absurd hi (Nat.not_lt_zero i),rfl,rfl,fun i hi=>absurd hi (Nat.not_lt_zero i),fun q hq=>?_⟩
  have nb:=nb q hq
  simp only [↓R0,R1,simprocAttr,-Int.reduceAbs,nb]
  exact gq q hq
 rw [decide_eq_false cl] at kl
 rw [if_neg cl]
 by_cases z:(lsOf n l).hs.length < n
 ·rw [if_pos z]
  have z':(((lsOf n l).hs.length:Int) < (n:Int))=True:=eq_true (by omega)
  simp only [c16,G0,Nat.reduceAdd]
  simp only [↓R0,R1,simprocAttr,-Int.reduceAbs,rdS,ck,kc,ac,kl,z',z,xs0,xc,Bool.not_false,Bool.not_true,FinL,isEnd,resL,res1]
  refine ⟨fun i=>i,_,fun i hi=>absurd hi (Nat.not_lt_zero i),fun i j hi=>absurd hi (Nat.not_lt_zero i),rfl,rfl,fun i hi=>absurd hi (Nat.not_lt_zero i),fun q hq=>?_⟩
  have nb:=nb q hq
  simp only [↓R0,R1,simprocAttr,-Int.reduceAbs,nb]
  exact gq q hq
 rw [if_neg z]
 have z':(((lsOf n l).hs.length:Int) < (n:Int))=False:=eq_false (by omega)
 have nm:n <= l.length:=by have:=I.r;omega
 have nm':((n:Int) <= (l.length:Int))=True:=eq_true (by omega)
 have mk:mkSl (N+0) 0 1 l.length 0 n = .slice (some ⟨N+0,0,none⟩) n l.length:=by unfold mkSl;rw [if_neg (by omega),Nat.sub_zero,Nat.sub_zero]
 have hb':=H.kb
 have M0:∀ j,(M+j=N+0)=False:=fun j=>eq_false (by omega)
 have M1:∀ j,(N+0=M+j)=False:=fun j=>eq_false (by omega)
 have M2:∀ j,(N=M+j)=False:=fun j=>eq_false (by omega)
 have M3:(N=M)=False:=eq_false (by omega)
 simp only [c16,G0,Nat.reduceAdd]
 simp only [↓R0,R1,simprocAttr,-Int.reduceAbs,rdS,ck,kc,ac,kl,z',mk,nm,nm',M0,M1,M2,M3,xs0,xc,Bool.not_false,Bool.not_true]
 refine lp_parts (fun d tm hp2 nx=>∃ (i M2:Nat) (sl2:Value),d+i=n /\ tmget tm 0 = .int .i64 n /\ tmget tm 8=sl2 /\ tmget tm 32 = .slice (some ⟨N+0,0,none⟩) n l.length /\ tmget tm 33 = .int .i64 n /\ tmget tm 34 = .int .i64 i /\ OutQ hp2 M M2 sl2 n (lsOf n l) i /\ (∀ q,q < M -> hget hp2 q=hget HP q) /\ M <= M2 /\ nx=M2+0) ?_ n
  ⟨0,M+1,.slice none 0 0,by omega,?_,?_,?_,?_,?_,.inl ⟨rfl,rfl⟩,?_,by omega,rfl⟩
 rotate_left
 all_goals first | (simp only [↓R0,R1,simprocAttr,-Int.reduceAbs];done) | (simp only [↓R0,R1,simprocAttr,-Int.reduceAbs];rfl) | skip
 ·intro q hq
  have nb:∀ j,(M+j=q)=False:=fun j=>eq_false (by omega)
  simp only [↓R0,R1,simprocAttr,-Int.reduceAbs,nb]
 rintro d tm hp2 nx ⟨i,M2,sl2,hd,t0,t8,t32,t33,t34,hO,hh,hM2,hnx⟩
 rw [hnx]
 clear hnx nx
 have wi:IntKind.i64.wrap ((i:Int)+1)=((i+1:Nat):Int):=by rw [i64_in _ (by omega)];omega
 by_cases ci:i < n
 case neg=>
  have ei:i=n:=by omega
  subst ei
  have ci':((i:Int) < (i:Int))=False:=eq_false (by omega)
  have evl:valsK i (lsOf i l)=valsI i (lsOf i l) i:=rfl
  rw [evl]
  unfold solNL
  have lv:=valsI_len i (lsOf i l) i
  rcases hO with ⟨y,rfl⟩ | ⟨y,kk,x,rfl,h3,h4,h5⟩
  ·have en:valsI i (lsOf i l) i=[]:=List.eq_nil_of_length_eq_zero (by omega)
   simp only [en,if_true]
   simp only [↓R0,R1,simprocAttr,-Int.reduceAbs,t0,t8,t32,t33,t34,ci',FinL,isEnd,resL,res1]
   refine ⟨fun i=>i,_,fun i hi=>absurd hi (Nat.not_lt_zero i),fun i j hi=>absurd hi (Nat.not_lt_zero i),rfl,rfl,fun i hi=>absurd hi (Nat.not_lt_zero i),fun q hq=>?_⟩
   rw [hh q (by omega)];exact gq q hq
  ·have en:¬ valsI i (lsOf i l) i=[]:=fun e=>by rw [e] at lv;simp at lv;omega
   simp only [if_neg en,lv]
   simp only [↓R0,R1,simprocAttr,-Int.reduceAbs,t0,t8,t32,t33,t34,ci',FinL,isEnd,resL,res1]
   refine ⟨fun _=>kk,_,fun i hi=>(by omega:N <= kk),fun i j (hi:i < 1) (hj:j < 1) _=>by omega,rfl,rfl,fun i hi=>⟨x,h3⟩,fun q hq=>?_⟩
   rw [hh q (by omega)];exact gq q hq
 have ci':((i:Int) < (n:Int))=True:=eq_true (by omega)
 have im:i < l.length:=by omega
 have im':((i:Int) < (l.length:Int))=True:=eq_true (by omega)
 have hd1:hget hp2 (N+0)=some ⟨30,1,false,hdrC (fun j=>N+0+(j+1)) (n+1) l.length⟩:=by rw [hh _ hb'.2];exact H.hd
 have lh:=hdrC_len (fun j=>N+0+(j+1)) (n+1) l.length
 have Hi:=hdrC_at (fun j=>N+0+(j+1)) (n+1) im
 have ri:=H.row i im
 have bi:=H.bd i im
 rw [<- hh _ bi.2] at ri
 have gn:=rowC_at ((lsOf n l).M i) (show n < n+1 by omega)
 have ln:=rowC_len ((lsOf n l).M i) (n+1)
 have n3:n * 3+3 <= (n+1) * 3:=by omega
 have nn1:(n < n+1)=True:=eq_true (by omega)
 have nn2:((n:Int) < ((n+1:Nat):Int))=True:=eq_true (by omega)
 obtain ⟨kr2,ek⟩:∃ k,k=N+0+(i+1):=⟨_,rfl⟩
 have bi2:kr2 < M:=by rw [ek];exact bi.2
 change (hdrC (fun j=>N+0+(j+1)) (n+1) l.length)[i]?=some (.slice (some ⟨N+0+(i+1),0,none⟩) (n+1) (n+1)) at Hi
 change hget hp2 (N+0+(i+1))=_ at ri
 rw [<- ek] at Hi ri
 clear ek bi
 have m0:∀ d,(M2+d=N+0)=False:=fun d=>eq_false (by omega)
 have m1:∀ d,(N+0=M2+d)=False:=fun d=>eq_false (by omega)
 have m2:∀ d,(N=M2+d)=False:=fun d=>eq_false (by omega)
 have m3:(N=M2)=False:=eq_false (by omega)
 have m4:∀ d,(M2+d=kr2)=False:=fun d=>eq_false (by omega)
 have vs:=valsI_succ n (lsOf n l) i
 have vl:=ratC_len (valsI n (lsOf n l) i)
 rw [valsI_len] at vl
 generalize rowC ((lsOf n l).M i) (n+1)=RW at *
 generalize (lsOf n l).M i n=xv at *
 generalize hdrC (fun j=>N+0+(j+1)) (n+1) l.length=HC at *
 rcases hO with ⟨y,rfl⟩ | ⟨y,kk,x,rfl,h3,h4,h5⟩
 ·simp only [↓R0,R1,simprocAttr,-Int.reduceAbs,t0,t8,t32,t33,t34,ci,ci',im,hd1,lh,Hi,ri,gn,ln,n3,nn1,nn2,m0,m1,m2,m3,m4,wi,rE_l3',rE_o3',q3z,q3t,q3s]
  refine ⟨d - 1,by omega,i+1,M2+2,.slice (some ⟨M2+1,0,none⟩) 1 1,by omega,rfl,rfl,.inr ⟨by omega,M2+1,false,by rw [y],?_,by omega,by omega⟩,fun q hq=>?_,by omega,rfl⟩
  ·rw [vs,y]
   simp only [↓R0,R1,simprocAttr,-Int.reduceAbs]
   rfl
  ·have nb:∀ d,(M2+d=q)=False:=fun d=>eq_false (by omega)
   simp only [↓R0,R1,simprocAttr,-Int.reduceAbs,nb]
   exact hh q hq
 ·have v1:∀ d,(M2+d=kk)=False:=fun d=>eq_false (by omega)
  have v2:∀ d,(kk=M2+d)=False:=fun d=>eq_false (by omega)
  have nle:(i+1 <= i)=False:=eq_false (by omega)
  have ov:((i+1) * 40 <= 140737488355328)=True:=eq_true (by omega)
  generalize ratC (valsI n (lsOf n l) i)=RV at *
  generalize eR:ratC (valsI n (lsOf n l) (i+1))=RV1 at *
  have vs':=vs.symm
  simp only [↓R0,R1,simprocAttr,-Int.reduceAbs,t0,t8,t32,t33,t34,ci,ci',im,hd1,lh,Hi,ri,gn,ln,n3,nn1,nn2,h3,vl,vs',nle,ov,v1,v2,m0,m1,m2,m3,m4,wi,rE_l3',rE_o3',q3z,q3t,q3s]
  refine ⟨d - 1,by omega,i+1,M2+2,.slice (some ⟨M2+1,0,none⟩) (i+1) (i+1),by omega,rfl,rfl,.inr ⟨by omega,M2+1,false,rfl,?_,by omega,by omega⟩,fun q hq=>?_,by omega,rfl⟩
  ·rw [eR]
   simp only [↓R0,R1,simprocAttr,-Int.reduceAbs,v1,v2]
  ·have nb:∀ d,(M2+d=q)=False:=fun d=>eq_false (by omega)
   have nq:(kk=q)=False:=eq_false (by omega)
   simp only [↓R0,R1,simprocAttr,-Int.reduceAbs,nb,nq]
   exact hh q hq
end Go.Eng
end
section
namespace Go.Eng
open Go.RowKit
def notCells (o:Obj):Prop:=∀ c e f,o ≠ .cells c e f
theorem Rel.grown {β:Emb} {h:Heap} {w w':World} {row:Option Nat} (r:Rel β h w) (hg:w.grownBy w' row) (hrow:∀ j,row=some j -> ∃ o,w.heap[j]?=some o /\ notCells o):Rel β h w':=
 ⟨fun k blk hk=>by
  obtain ⟨L,ds,fr,a1,a2,a3⟩:=r.live k blk hk
  refine ⟨L,ds,fr,a1,(hg.block L.b (r.bnd k L a1) (fun e=>?_)).trans a2,a3⟩
  obtain ⟨o,ho,hc⟩:=hrow _ e.symm
  rw [a2] at ho;cases ho;exact hc _ _ _ rfl,r.inj,fun k L e=>Nat.lt_of_lt_of_le (r.bnd k L e) hg.size⟩
theorem Fr.grown {β0 β:Emb} {h0 h:Heap} {w0 w w':World} {row:Option Nat} (f:Fr β0 h0 w0 β h w) (hg:w.grownBy w' row) (hrow:∀ j,row=some j -> w0.heap.size <= j):Fr β0 h0 w0 β h w':=
 ⟨f.ext,Nat.le_trans f.size hg.size,hg.os.trans f.os,hg.output.trans f.out,fun b hb hn=>
  (hg.block b (Nat.lt_of_lt_of_le hb f.size) (fun e=>by have:=hrow _ e.symm;omega)).trans (f.keep b hb hn),f.own⟩
theorem Fr.other {β β':Emb} {h h':Heap} {w w':World} (f:Fr β h w β' h' w') (r:Rel β h w) {b:Nat} {o:Obj} (hb:w.heap[b]?=some o) (hc:notCells o):w'.heap[b]?=some o:=by
 refine (f.keep b (Array.getElem?_eq_some_iff.1 hb).1 fun k L hk e eb=>?_).trans hb
 obtain ⟨blk,h1,_⟩:=hk
 obtain ⟨L',ds,fr,a1,a2,_⟩:=r.live k blk h1
 rw [e] at a1;cases a1
 rw [eb,hb] at a2
 cases a2;exact hc _ _ _ rfl
section
variable {P:Program} {E:Env} {β0:Emb} {h0:Heap} {w0:World} {nt N0:Nat} {dd:List Deferred}
theorem SR.grown {β:Emb} {s:St} {a:Act} {w w':World} {row:Option Nat} (r:SR dd β0 h0 w0 nt N0 β s a w) (hg:w.grownBy w' row) (hrow:∀ j,row=some j -> w0.heap.size <= j /\ ∃ o,w.heap[j]?=some o /\ notCells o):SR dd β0 h0 w0 nt N0 β s a w':=
 ⟨r.tm,r.sz,r.rel.grown hg (fun j e=>(hrow j e).2),r.fr.grown hg (fun j e=>(hrow j e).1),r.dom,r.defs,r.lo,r.new⟩
theorem SR.here {β:Emb} {s:St} {a:Act} {w:World} (r:SR dd β0 h0 w0 nt N0 β s a w):SR dd β s.hp w nt s.nx β s a w:=
 ⟨r.tm,r.sz,r.rel,Fr.refl _ _ _,r.dom,r.defs,Nat.le_refl _,fun k hk => .inl hk⟩
theorem SR.comp {β β':Emb} {s s':St} {a a':Act} {w w':World} {dd':List Deferred} (r:SR dd β0 h0 w0 nt N0 β s a w) (r':SR dd' β s.hp w nt s.nx β' s' a' w'):SR dd' β0 h0 w0 nt N0 β' s' a' w':=
 ⟨r'.tm,r'.sz,r'.rel,r.fr.trans r'.fr,r'.dom,r'.defs,Nat.le_trans r.lo r'.lo,fun k hk=>by
  rcases r'.new k hk with h | h
  ·exact r.new k h
  ·exact .inr (Nat.le_trans r.lo h)⟩
theorem grown_put (W:World) (l:Nat) (o:Obj):W.grownBy (W.putObj l o) (some l):=
 ⟨rfl,rfl,rfl,by simp [World.putObj],fun k _ hk=>World.putObj_heap_other (fun e=>hk (by rw [e]))⟩
theorem grown_alloc (W:World) (o:Obj):W.grownBy (W.alloc o) none:=
 ⟨rfl,rfl,rfl,by simp,fun k h _=>Below.heap_alloc W o k h⟩
theorem grown_trans {A B C:World} {row:Option Nat} (h:A.grownBy B row) (k:B.grownBy C row):A.grownBy C row:=
 ⟨k.os.trans h.os,k.tape.trans h.tape,k.output.trans h.output,Nat.le_trans h.size k.size,fun i hi hn=>(k.block i (Nat.lt_of_lt_of_le hi h.size) hn).trans (h.block i hi hn)⟩
def IterOK (P:Program) (g:Nat) (lb:Array Value) (len:Nat) (W:World):Prop:=
 ∀ (l:Nat) (J:Nat -> World -> Prop),(∀ i X Y,J i X -> X.grownBy Y none -> J i Y) ->
  (∀ i X,J i X -> i < len -> YieldAt Fence.wide 2 P l #[.int .i64 i] X fun e Y=>e = .returned (.bool true) /\ J (i+1) Y) -> J 0 W ->
  CallsIn Fence.wide 3 P g (#[.func (.yield l) #[] #[]] ++ lb) W fun e Y=>(∃ v,e = .returned v) /\ J len Y
def coll (D:Nat):Deferred:={ target:=.collected D,args:=#[] }
theorem rng_sound (hE:EnvOK P E) (hm:P.follows .mixedOrders=true) {g:Operand} {p:Nat} {assign body:Code} {ia ib:ICode}
  (ha:trCode P nt assign=some ia) (hb:trCode P nt body=some ib) (hpn:p < nt) {gf:Nat} {lb:Array Value} {len:Nat} {β:Emb} {s:St} {a:Act} {w:World}
  (r:SR dd β0 h0 w0 nt N0 β s a w) (hg:a.eval g = .func (.func gf) #[] lb) (eg:∀ args w,(callFunc gf args).run P w = .ok (.enter gf args) w)
  (hit:∀ W,w.grownBy W none -> IterOK P gf lb len W) (I:Nat -> Heap -> Nat -> Prop) (hI0:I 0 s.hp s.nx)
  (hbody:∀ i hp nx,I i hp nx -> i < len -> s.nx <= nx -> wpI E (.seq ia ib) (fun e s'=>e = .normal /\ I (i+1) s'.hp s'.nx) ⟨(p,.int .i64 i) :: s.tm,hp,nx⟩)
  {Q:Exit -> Act -> World -> Prop} (hdone:∀ (β':Emb) (hp:Heap) (nx:Nat) (a':Act) (w':World) (D:Nat),I len hp nx -> s.nx <= nx -> SR (coll D :: dd) β0 h0 w0 nt N0 β' ⟨s.tm,hp,nx⟩ a' w' -> w.heap.size <= D -> w'.heap[D]?=some (.deferred (some [])) -> (∀ (b:Nat) (o:Obj),w.heap[b]?=some o -> notCells o -> w'.heap[b]?=some o) -> Q .normal a' w') :
  (Code.rangeFunc g #[p] assign body).wpIn Fence.wide 4 P Q a w:=by
 refine wpIn_rangeFunc ?_
 intro fn _
 obtain ⟨rec,hrec⟩:∃ rec:LoopState -> Loop,rec=fun st=>{ state:=st,pending:=none,fn,tmps:=a.tmps,params:=#[p],assign,body,defers:=w.heap.size }:=⟨_,rfl⟩
 obtain ⟨W1,hW1⟩:∃ W1,(w.alloc (.deferred (some []))).alloc (.loop (rec .ready))=W1:=⟨_,rfl⟩
 have g1:w.grownBy W1 none:=by rw [<- hW1];exact grown_trans (grown_alloc _ _) (grown_alloc _ _)
 have hL1:W1.heap[w.heap.size+1]?=some (.loop (rec .ready)):=by
  rw [<- hW1];have:=World.alloc_heap_new (w.alloc (.deferred (some []))) (.loop (rec .ready));rwa [World.size_alloc] at this
 have hK1:W1.heap[w.heap.size]?=some (.deferred (some [])):=by
  rw [<- hW1];exact (Below.heap_alloc _ _ _ (by simp)).trans (World.alloc_heap_new w _)
 have nl:∀ x,notCells (.loop x):=fun x c e f h=>by cases h
 have nd:∀ x,notCells (.deferred x):=fun x c e f h=>by cases h
 have hs0:w0.heap.size <= w.heap.size:=r.fr.size
 refine ⟨w.heap.size+1,[coll w.heap.size],W1,{ target:=.fn (.func gf) lb,args:=#[.func (.yield (w.heap.size+1)) #[] #[]] },W1,gf,
  #[.func (.yield (w.heap.size+1)) #[] #[]] ++ lb,W1,?_,?_,fun _ _=>trivial,?_,(fun e=>by cases e),?_⟩
 ·rw [<- hW1,hrec];exact run_enterLoop_outer _ _ _ _ _
 ·simp only [resolve,hg]
  simp [go_sem]
 ·simp [invoke,go_sem,eg]
 ·refine (hit W1 g1 (w.heap.size+1) (fun i W=>∃ β' hp nx,I i hp nx /\ s.nx <= nx /\ SR dd β0 h0 w0 nt N0 β' ⟨s.tm,hp,nx⟩ a W /\ W.heap[w.heap.size+1]?=some (.loop (rec .ready)) /\
   W.heap[w.heap.size]?=some (.deferred (some [])) /\ (∀ (b:Nat) (o:Obj),w.heap[b]?=some o -> notCells o -> W.heap[b]?=some o)) ?_ ?_ ?_).mono ?_
  ·rintro i X Y ⟨β',hp,nx,q1,q2,q3,q4,q5,q6⟩ hgr
   have kp:∀ b o,X.heap[b]?=some o -> Y.heap[b]?=some o:=fun b o hb=>(hgr.block b (Array.getElem?_eq_some_iff.1 hb).1 (by simp)).trans hb
   exact ⟨β',hp,nx,q1,q2,q3.grown hgr (fun j e=>by cases e),kp _ _ q4,kp _ _ q5,fun b o hb hc=>kp b o (q6 b o hb hc)⟩
  ·rintro i X ⟨β',hp,nx,q1,q2,q3,q4,q5,q6⟩ hlen
   have hy:(Instr.yield (w.heap.size+1) #[.int .i64 i]).run P X = .ok (.round (w.heap.size+1) fn (a.tmps.setIfInBounds p (.int .i64 i)) assign body) X:=by
    rw [run_yield (P:=P) (args:=#[.int .i64 i]) q4 (by rw [hrec];rfl)];simp [hrec]
   refine ⟨fn,_,assign,body,hy,roundIn_of_wpIn trivial ?_⟩
   have r0:SR [] β' hp X nt nx β' ⟨(p,.int .i64 i) :: s.tm,hp,nx⟩ { tmps:=a.tmps.setIfInBounds p (.int .i64 i),defers:=[] } X:=by
    refine ⟨?_,by simp [q3.sz],q3.rel,Fr.refl _ _ _,q3.dom,rfl,Nat.le_refl _,fun k hk => .inl hk⟩
    have:=put_tm (dst:=some p) (v:=.int .i64 i) (v':=.int .i64 i) q3.tm (by simp [dstOK,q3.sz,hpn]) (.base _ rfl)
    exact this
   have hw:=hbody i hp nx q1 hlen q2
   simp only [wpI] at hw
   refine wpIn_mono (code_sound (ro:=some (w.heap.size+1)) (n:=2) hE hm assign ia ha _ β' _ _ X hw r0) ?_
   rintro e a1 w1 hq
   cases e <;> simp only [liftQ,thenQ] at hq <;> simp only [Exit.then]
   case exit id=>obtain ⟨_,_,⟨h,_⟩,_⟩:=hq;cases h
   case ret=>obtain ⟨_,_,⟨h,_⟩,_⟩:=hq;cases h
   obtain ⟨β1,s1,hb1,r1⟩:=hq
   have L1:=r1.fr.other q3.rel q4 (nl _)
   have D1:=r1.fr.other q3.rel q5 (nd _)
   refine ⟨_,run_beginRound L1 (by rw [hrec]),?_⟩
   have rowok:∀ {W:World} {st:LoopState},W.heap[w.heap.size+1]?=some (.loop (rec st)) -> ∀ j,some (w.heap.size+1)=some j -> w0.heap.size <= j /\ ∃ o,W.heap[j]?=some o /\ notCells o:=
    fun hL j e=>by cases e;exact ⟨by omega,_,hL,nl _⟩
   obtain ⟨w2,hw2⟩:∃ w2,w1.putObj (w.heap.size+1) (.loop (rec .busy))=w2:=⟨_,rfl⟩
   have e2:w1.putObj (w.heap.size+1) (.loop { rec .ready with state:=.busy })=w2:=by rw [<- hw2,hrec]
   rw [e2]
   have g2:w1.grownBy w2 (some (w.heap.size+1)):=by rw [<- hw2];exact grown_put _ _ _
   have L2:w2.heap[w.heap.size+1]?=some (.loop (rec .busy)):=by rw [<- hw2];exact World.putObj_heap_same (Array.getElem?_eq_some_iff.1 L1).1
   have D2:w2.heap[w.heap.size]?=some (.deferred (some [])):=by rw [<- hw2];exact (World.putObj_heap_other (by omega)).trans D1
   have R2:SR dd β0 h0 w0 nt N0 β1 ⟨s.tm,s1.hp,s1.nx⟩ a w2:=by
    have A:SR dd β0 h0 w0 nt N0 β1 ⟨s.tm,s1.hp,s1.nx⟩ a w1:=⟨fun t=>(q3.tm t).mono r1.fr.ext,q3.sz,r1.rel,q3.fr.trans r1.fr,r1.dom,q3.defs,Nat.le_trans q3.lo r1.lo,fun k hk=>by
     rcases r1.new k hk with h | h
     ·exact q3.new k h
     ·exact .inr (Nat.le_trans q3.lo h)⟩
    exact A.grown g2 (rowok L1)
   have r2:SR [] β1 s1.hp w2 nt s1.nx β1 s1 a1 w2:=⟨r1.tm,r1.sz,R2.rel,Fr.refl _ _ _,r1.dom,r1.defs,Nat.le_refl _,fun k hk => .inl hk⟩
   refine wpIn_mono (code_sound (ro:=some (w.heap.size+1)) (n:=2) hE hm body ib hb _ β1 _ _ w2 hb1 r2) ?_
   rintro e a3 w3 hq
   cases e <;> simp only [liftQ] at hq <;> simp only [roundPost]
   case exit id=>obtain ⟨_,_,⟨h,_⟩,_⟩:=hq;cases h
   case ret=>obtain ⟨_,_,⟨h,_⟩,_⟩:=hq;cases h
   obtain ⟨β3,s3,⟨_,i3⟩,r3⟩:=hq
   have L3:=r3.fr.other r2.rel L2 (nl _)
   have D3:=r3.fr.other r2.rel D2 (nd _)
   refine ⟨_,_,run_endRound none L3,rfl,?_⟩
   obtain ⟨w4,hw4⟩:∃ w4,w3.putObj (w.heap.size+1) (.loop (rec .ready))=w4:=⟨_,rfl⟩
   have e4:w3.putObj (w.heap.size+1) (.loop { rec .busy with state:=if (none:Option Code).isNone then .ready else .done,pending:=none })=w4:=by rw [<- hw4,hrec];rfl
   rw [e4]
   have g4:w3.grownBy w4 (some (w.heap.size+1)):=by rw [<- hw4];exact grown_put _ _ _
   have R3:SR dd β0 h0 w0 nt N0 β3 ⟨s.tm,s3.hp,s3.nx⟩ a w3:=⟨fun t=>(R2.tm t).mono r3.fr.ext,R2.sz,r3.rel,R2.fr.trans r3.fr,r3.dom,R2.defs,Nat.le_trans R2.lo r3.lo,fun k hk=>by
    rcases r3.new k hk with h | h
    ·exact R2.new k h
    ·exact .inr (Nat.le_trans R2.lo h)⟩
   refine ⟨β3,s3.hp,s3.nx,i3,Nat.le_trans q2 (Nat.le_trans r1.lo r3.lo),R3.grown g4 (rowok L3),?_,?_,?_⟩
   ·rw [<- hw4];exact World.putObj_heap_same (Array.getElem?_eq_some_iff.1 L3).1
   ·rw [<- hw4];exact (World.putObj_heap_other (by omega)).trans D3
   ·intro b o hb' hc
    have hlt:=(Array.getElem?_eq_some_iff.1 hb').1
    have h1:=r1.fr.other q3.rel (q6 b o hb' hc) hc
    have h2:w2.heap[b]?=some o:=by rw [<- hw2];exact (World.putObj_heap_other (by omega)).trans h1
    have h3:=r3.fr.other r2.rel h2 hc
    rw [<- hw4];exact (World.putObj_heap_other (by omega)).trans h3
  ·refine ⟨β,s.hp,s.nx,hI0,Nat.le_refl _,?_,hL1,hK1,fun b o hb' _=>(g1.block b (Array.getElem?_eq_some_iff.1 hb').1 (by simp)).trans hb'⟩
   exact r.grown g1 (fun j e=>by cases e)
  ·rintro e Y ⟨⟨v,rfl⟩,β',hp,nx,q1,q2,q3,q4,q5,q6⟩
   simp only [rangePost]
   have hend:=run_endLoop (P:=P) q4 (by rw [hrec];simp)
   have hp0:(rec .ready).pending=none:=by rw [hrec]
   obtain ⟨ob,hob⟩:∃ ob,Obj.loop { rec .ready with state:=.exhausted }=ob:=⟨_,rfl⟩
   rw [hob,hp0] at hend
   refine ⟨none,_,hend,?_⟩
   have g5:=grown_put Y (w.heap.size+1) ob
   have R5:=q3.grown g5 (fun j e=>by cases e;exact ⟨by omega,_,q4,nl _⟩)
   refine hdone β' hp nx _ _ w.heap.size q1 q2 ⟨R5.tm,R5.sz,R5.rel,R5.fr,R5.dom,by simp [R5.defs],R5.lo,R5.new⟩ (Nat.le_refl _) ((World.putObj_heap_other (by omega)).trans q5) ?_
   intro b o hb' hc
   have hlt:=(Array.getElem?_eq_some_iff.1 hb').1
   exact (World.putObj_heap_other (by omega)).trans (q6 b o hb' hc)
end
inductive RCode where
 | plain (ic:ICode)
 | seq (a b:RCode)
 | block (id:Nat) (a:RCode)
 | rng (g:Opd) (p:Nat) (ia ib:ICode)
def wpRC (E:Env) (gf:Nat):RCode -> (IExit -> St -> Prop) -> St -> Prop
 | .plain ic,Q,s=>wpI E ic Q s
 | .seq a b,Q,s=>wpRC E gf a (thenQ (wpRC E gf b Q) Q) s
 | .block id a,Q,s=>wpRC E gf a (blockQ id Q) s
 | .rng g p ia ib,Q,s=>∃ (k e sz:Nat) (x:Bool) (a:Option Addr) (len cap:Nat) (I:Nat -> Heap -> Nat -> Prop),
   ev s.tm g = .func (.func gf) ⟨[]⟩ ⟨[.pointer (some ⟨k,0,none⟩)]⟩ /\ hget s.hp k=some ⟨e,sz,x,[.slice a len cap]⟩ /\ len <= 1000 /\ I 0 s.hp s.nx /\
   (∀ i hp nx,I i hp nx -> i < len -> s.nx <= nx -> wpI E (.seq ia ib) (fun e s'=>e = .normal /\ I (i+1) s'.hp s'.nx) ⟨(p,.int .i64 i) :: s.tm,hp,nx⟩) /\
   ∀ hp nx,I len hp nx -> s.nx <= nx -> Q .normal ⟨s.tm,hp,nx⟩
def hasR:Code -> Bool
 | .seq a b=>hasR a || hasR b
 | .block _ a=>hasR a
 | .rangeFunc ..=>true
 | _=>false
def trRC (P:Program) (nt:Nat):Code -> Option RCode
 | .rangeFunc g ps assign body=>match trOpd g,ps.toList,trCode P nt assign,trCode P nt body with
   | some gi,[p],some ia,some ib=>if p < nt then some (.rng gi p ia ib) else none
   | _,_,_,_=>none
 | .seq a b=>if hasR a || hasR b then (match trRC P nt a,trRC P nt b with | some x,some y=>some (.seq x y) | _,_=>none) else (trCode P nt (.seq a b)).map .plain
 | .block id a=>if hasR a then (trRC P nt a).map (.block id) else (trCode P nt (.block id a)).map .plain
 | c=>(trCode P nt c).map .plain
def Iters (P:Program) (gf:Nat):Prop:=
 hasBody P gf=true /\ ∀ (W:World) (b len cap:Nat) (a:Option Addr),len <= 1000 -> W.cell? ⟨b,0,none⟩=some (.slice a len cap) -> IterOK P gf #[.pointer (some ⟨b,0,none⟩)] len W
section
variable {P:Program} {E:Env} {β0:Emb} {h0:Heap} {w0:World} {nt N0:Nat}
structure SDs (β0:Emb) (h0:Heap) (w0:World) (nt N0:Nat) (Ds:List Nat) (β:Emb) (s:St) (a:Act) (w:World):Prop where
 sr:SR (Ds.map coll) β0 h0 w0 nt N0 β s a w
 nd:Ds.Nodup
 at':∀ D ∈ Ds,w0.heap.size <= D /\ w.heap[D]?=some (.deferred (some []))
def liftR (β0:Emb) (h0:Heap) (w0:World) (nt N0:Nat) (K:IExit -> St -> Prop):Exit -> Act -> World -> Prop
 | .normal,a,w=>∃ Ds β s,K .normal s /\ SDs β0 h0 w0 nt N0 Ds β s a w
 | .exit id,a,w=>∃ Ds β s,K (.exit id) s /\ SDs β0 h0 w0 nt N0 Ds β s a w
 | .ret,a,w=>∃ Ds β s,K .ret s /\ SDs β0 h0 w0 nt N0 Ds β s a w
 | _,_,_=>False
theorem not_deferred (x:Option (List Deferred)):notCells (.deferred x):=fun c e f h=>by cases h
theorem VR.slice_left {β:Emb} {a:Option Addr} {n c:Nat} {v':Value} (h:VR β (.slice a n c) v'):∃ a' c',v' = .slice a' n c':=by
 cases h with
 | base _ h=>exact ⟨_,_,rfl⟩
 | sl k off len cap L h=>exact ⟨_,_,rfl⟩
 | slz k off c L h=>exact ⟨_,_,rfl⟩
 | sle a c=>exact ⟨_,_,rfl⟩
theorem SDs.plain (hE:EnvOK P E) (hm:P.follows .mixedOrders=true) {c:Code} {ic:ICode} (hc:trCode P nt c=some ic) {K:IExit -> St -> Prop} {Ds:List Nat} {β:Emb} {s:St} {a:Act} {w:World}
  (hk:wpI E ic K s) (r:SDs β0 h0 w0 nt N0 Ds β s a w):c.wpIn Fence.wide 4 P (liftR β0 h0 w0 nt N0 K) a w:=by
 refine wpIn_mono (code_sound (ro:=none) (n:=4) hE hm c ic hc K β s a w hk r.sr.here) ?_
 have go:∀ {x:IExit} {a':Act} {w':World},(∃ β' s',K x s' /\ SR (Ds.map coll) β s.hp w nt s.nx β' s' a' w') -> ∃ Ds β' s',K x s' /\ SDs β0 h0 w0 nt N0 Ds β' s' a' w':=by
  rintro x a' w' ⟨β',s',hk',r'⟩
  exact ⟨Ds,β',s',hk',r.sr.comp r',r.nd,fun D hD=>⟨(r.at' D hD).1,r'.fr.other r.sr.rel (r.at' D hD).2 (not_deferred _)⟩⟩
 intro e a' w' he
 cases e <;> simp only [liftQ] at he <;> simp only [liftR]
 ·exact go he
 ·exact go he
 ·exact go he
theorem rc_sound (hE:EnvOK P E) (hm:P.follows .mixedOrders=true) {gf:Nat} (hit:Iters P gf):∀ (c:Code) (rc:RCode),trRC P nt c=some rc -> ∀ (K:IExit -> St -> Prop) (Ds:List Nat) (β:Emb) (s:St) (a:Act) (w:World),
  wpRC E gf rc K s -> SDs β0 h0 w0 nt N0 Ds β s a w -> c.wpIn Fence.wide 4 P (liftR β0 h0 w0 nt N0 K) a w:=by
 have pl:∀ (c:Code) (rc:RCode),(trCode P nt c).map RCode.plain=some rc -> ∀ (K:IExit -> St -> Prop) (Ds:List Nat) (β:Emb) (s:St) (a:Act) (w:World),
   wpRC E gf rc K s -> SDs β0 h0 w0 nt N0 Ds β s a w -> c.wpIn Fence.wide 4 P (liftR β0 h0 w0 nt N0 K) a w:=by
  intro c rc e K Ds β s a w hk r
  rw [Option.map_eq_some_iff] at e
  obtain ⟨ic,h1,rfl⟩:=e
  exact r.plain hE hm h1 hk
 intro c
 induction c with
 | seq x y ihx ihy=>
  intro rc e K Ds β s a w hk r
  simp only [trRC] at e
  split at e
  ·split at e
   ·rename_i ix iy h1 h2
    cases e
    refine wpIn_seq (wpIn_mono (ihx ix h1 _ Ds β s a w hk r) ?_)
    intro e a' w' he
    cases e <;> simp only [liftR] at he <;> simp only [Exit.then,liftR]
    ·obtain ⟨Ds',β',s',hk',r'⟩:=he;exact ihy iy h2 K Ds' β' s' a' w' hk' r'
    ·obtain ⟨Ds',β',s',hk',r'⟩:=he;exact ⟨Ds',β',s',hk',r'⟩
    ·obtain ⟨Ds',β',s',hk',r'⟩:=he;exact ⟨Ds',β',s',hk',r'⟩
   ·cases e
  ·exact pl _ _ e K Ds β s a w hk r
 | block id x ihx=>
  intro rc e K Ds β s a w hk r
  simp only [trRC] at e
  split at e
  ·rw [Option.map_eq_some_iff] at e
   obtain ⟨ix,h1,rfl⟩:=e
   refine wpIn_block (wpIn_mono (ihx ix h1 _ Ds β s a w hk r) ?_)
   intro e a' w' he
   cases e <;> simp only [liftR] at he <;> simp only [Exit.inBlock,liftR]
   ·exact he
   ·obtain ⟨Ds',β',s',hk',r'⟩:=he
    simp only [blockQ] at hk'
    split at hk'
    ·rename_i e;rw [if_pos e];exact ⟨Ds',β',s',hk',r'⟩
    ·rename_i e;rw [if_neg e];exact ⟨Ds',β',s',hk',r'⟩
   ·exact he
  ·exact pl _ _ e K Ds β s a w hk r
 | rangeFunc g ps assign body _ _=>
  intro rc e K Ds β s a w hk r
  simp only [trRC] at e
  split at e
  ·rename_i gi p ia ib h1 h2 h3 h4
   split at e
   ·rename_i hlt
    cases e
    obtain ⟨ps⟩:=ps
    simp only at h2
    subst h2
    obtain ⟨k,e0,sz,x,a0,len,cap,I,e1,e2,el,e3,e4,e5⟩:=hk
    have hv:=opd_of r.sr.tm g gi h1
    rw [e1] at hv
    obtain ⟨lb,hgv,L,hL,rfl⟩:∃ lb,a.eval g = .func (.func gf) #[] ⟨lb⟩ /\ ∃ L:Loc,β k=some L /\ lb=[.pointer (some ⟨L.b,0,none⟩)]:=by
     generalize a.eval g=V at hv
     cases hv with
     | base _ hb=>simp [isBase] at hb
     | fn _ _ xs' _ cs' q1 q2=>
      cases q1
      cases q2 with
      | cons _ v' _ r' p1 p2=>
       cases p2
       obtain ⟨L,hL,rfl⟩:=p1.ptr_left
       exact ⟨_,rfl,L,hL,rfl⟩
    have hcell:∃ a' c',w.cell? ⟨L.b,0,none⟩=some (.slice a' len c'):=by
     obtain ⟨L',ds,fr,q1,q2,q3,q4,_⟩:=r.sr.rel.live k _ e2
     rw [hL] at q1;cases q1
     cases q4 with
     | cons _ v' _ r' p1 p2=>
      obtain ⟨a',c',rfl⟩:=p1.slice_left
      exact ⟨a',c',by rw [cell_of q2];simp⟩
    obtain ⟨a',c',hcell⟩:=hcell
    have hlb:L.b < w.heap.size:=r.sr.rel.bnd k L hL
    refine rng_sound (dd:=Ds.map coll) hE hm h3 h4 hlt r.sr hgv (fun args w=>run_callFunc hit.1) (fun W hg=>hit.2 W L.b len c' a' el ?_) I e3 e4 ?_
    ·rw [<- hcell];simp only [World.cell?];rw [hg.block L.b hlb (by simp)]
    ·intro β' hp nx a1 w1 D q1 q2 q3 q4 q5 q6
     refine ⟨D :: Ds,β',_,e5 hp nx q1 q2,q3,?_,?_⟩
     ·refine List.nodup_cons.2 ⟨fun hD=>?_,r.nd⟩
      have:=(Array.getElem?_eq_some_iff.1 (r.at' D hD).2).1
      omega
     ·intro D' hD'
      rcases List.mem_cons.1 hD' with rfl | hD'
      ·exact ⟨Nat.le_trans r.sr.fr.size q4,q5⟩
      ·exact ⟨(r.at' D' hD').1,q6 D' _ (r.at' D' hD').2 (not_deferred _)⟩
   ·cases e
  ·cases e
 | _=>intro rc e K Ds β s a w hk r;exact pl _ _ e K Ds β s a w hk r
end
structure RFun where
 nt:Nat
 res:List IRes
 code:RCode
def trFunR (P:Program) (f:Nat):Option RFun:=
 match P.funcs[f]? with
 | some fn=>match fn.body with
  | some c => if (fn.name == "runtime.NumGoroutine") = false then
    match trRC P fn.ntmps c,trRes P fn.ntmps fn.results.toList with
    | some ic,some r=>some ⟨fn.ntmps,r,ic⟩
    | _,_=>none
   else none
  | none=>none
 | none=>none
theorem leaves {P:Program} {fn:Func} {R:Ending -> World -> Prop} {β0 β':Emb} {h:Heap} {w:World} {nt N:Nat} {dd:List Deferred} {s':St} {a':Act}
  (fin:∀ w',SR dd β0 h w nt N β' s' a' w' -> ∃ u,(results fn a'.tmps).run P w' = .ok u w' /\ R (.returned u) w'):∀ (Ds:List Nat) (w':World),SR dd β0 h w nt N β' s' a' w' -> Ds.Nodup -> (∀ D ∈ Ds,w.heap.size <= D /\ w'.heap[D]?=some (.deferred (some []))) ->
   LeavesInM Fence.wide 4 P fn a'.tmps R (Ds.map coll) .returning w'
 | [],w',r,_,_=>fin w' r
 | D :: Ds,w',r,nd,hD=>by
  have hD0:=hD D (by simp)
  refine ⟨by simp,.inl ⟨D,_,rfl,run_takeDeferred hD0.2,?_⟩⟩
  refine leaves fin Ds _ (r.grown (grown_put _ _ _) (fun j e=>by cases e;exact ⟨hD0.1,_,hD0.2,not_deferred _⟩)) (List.nodup_cons.1 nd).2 fun D' hD'=>⟨(hD D' (by simp [hD'])).1,?_⟩
  exact (World.putObj_heap_other (fun e=>by subst e;exact (List.nodup_cons.1 nd).1 hD')).trans (hD D' (by simp [hD'])).2
theorem rspec_ok {P:Program} {E:Env} (hE:EnvOK P E) (hm:P.follows .mixedOrders=true) {gf:Nat} (hit:Iters P gf) {f:Nat} {F:RFun} (ht:trFunR P f=some F) {S:List Value -> Heap -> Nat -> Option Out}
  (mono:∀ args h h' n o,hle h h' -> S args h n=some o -> S args h' n=some o)
  (hrun:∀ args h n v δ m N,S args h n=some (v,δ,m) -> n+m <= N -> (∀ k b,hget h k=some b -> k < N) -> (∀ k,n <= k -> k < n+m -> hget h k=none) -> args.length <= F.nt /\
   wpRC E gf F.code (fun e s=>isEnd e /\ ∃ vs,resL s F.res=some vs /\ FC h n N (v,δ,m) s.hp (one vs)) ⟨initT args,h,N⟩):SpecOK P f S:=by
 unfold trFunR at ht
 split at ht
 ·rename_i fn hfn
  split at ht
  ·rename_i c hc
   split at ht
   ·rename_i hname
    split at ht
    ·rename_i ic irs hic hirs
     cases ht
     refine ⟨?_,by simp [hasBody,hfn,hc,hname],mono⟩
     intro args h n o hS β w args' hargs rel hfresh ⟨N0,hN0⟩
     obtain ⟨v,δ,m⟩:=o
     obtain ⟨N1,hN1⟩:=maxKey h
     let N:=max (max N0 N1) (n+m)
     obtain ⟨hal,hwp⟩:=hrun args h n v δ m N hS (Nat.le_max_right _ _) (fun k b e=>by have:=hN1 k b e;omega) (fun k h1 h2=>rel.fresh (hfresh k h1 h2))
     simp only at hal hwp
     have hlen:=hargs.length
     refine callsIn_wide.1 (callsIn_of_wp_marks (n:=4) hfn hc trivial ?_)
     refine wpIn_mono (rc_sound (β0:=β) (h0:=h) (w0:=w) (nt:=fn.ntmps) (N0:=N) hE hm hit c ic hic _ [] β ⟨initT args,h,N⟩ _ w hwp ⟨?_,.nil,fun D hD=>by cases hD⟩) ?_
     ·refine ⟨fun t=>?_,?_,rel,Fr.refl _ _ _,fun k hk=>by have:=hN0 k hk;simp only;omega,rfl,Nat.le_refl _,fun k hk => .inl hk⟩
      ·simp only [initT]
       rw [tmget_init args 0 t,if_pos (Nat.zero_le _),Nat.sub_zero]
       rw [Array.getD_eq_getD_getElem?]
       cases ha:args[t]? with
       | some u=>
        obtain ⟨u',g1,g2⟩:=hargs.get ha
        have hlt:t < args'.length:=(List.getElem?_eq_some_iff.1 g1).1
        rw [Array.getElem?_append_left (by simpa using hlt)]
        simp [g1,g2]
       | none=>
        have hge:args.length <= t:=List.getElem?_eq_none_iff.1 ha
        rw [Array.getElem?_append_right (by simp;omega)]
        simp only [Option.getD_none]
        by_cases hh:t - args'.length < fn.ntmps - args'.length
        ·simp [Array.getElem?_replicate,hh];exact undef_vr _
        ·simp [Array.getElem?_replicate,hh];exact undef_vr _
      ·simp;omega
     ·intro e a' w' he
      have fin:∀ (Ds:List Nat) (β':Emb) (s':St),(∃ vs,resL s' irs=some vs /\ FC h n N (v,δ,m) s'.hp (one vs)) -> SDs β h w fn.ntmps N Ds β' s' a' w' ->
        LeavesInM Fence.wide 4 P fn a'.tmps (fun e w'=>∃ β' v',e = .returned v' /\ VR β' v v' /\ Rel β' (δ ++ h) w' /\ Fr β h w β' (δ ++ h) w' /\ ∀ k,β' k ≠ none -> β k ≠ none \/ (n <= k /\ k < n+m)) a'.defers .returning w':=by
       rintro Ds β' s' ⟨vs,hvs,hfc⟩ r
       rw [r.sr.defs]
       exact leaves (fun w'' r''=>fc_fin hirs rel hfresh hvs hfc r'') Ds w' r.sr r.nd r.at'
      cases e <;> simp only [liftR] at he <;> simp only [bodyPostM]
      ·obtain ⟨Ds,β',s',⟨_,hk⟩,r⟩:=he
       exact fin Ds β' s' hk r
      ·obtain ⟨Ds,β',s',⟨hk0,_⟩,r⟩:=he
       exact hk0.elim
      ·obtain ⟨Ds,β',s',⟨_,hk⟩,r⟩:=he
       exact fin Ds β' s' hk r
    ·cases ht
   ·cases ht
  ·cases ht
 ·cases ht
end Go.Eng
end
section
namespace Go.Eng
abbrev KR:=Inhabited (Env × Nat × Opd × Nat × ICode × ICode × (IExit -> St -> Prop))
def RG (s:St) [k:KR]:Prop:=wpRC k.default.1 k.default.2.1 (.rng k.default.2.2.1 k.default.2.2.2.1 k.default.2.2.2.2.1 k.default.2.2.2.2.2.1) k.default.2.2.2.2.2.2 s
section
variable {E:Env} {gf:Nat} {Q:IExit -> St -> Prop} {s:St}
theorem y_plain {c:ICode}:wpRC E gf (.plain c) Q s=wpI E c Q s:=propext Iff.rfl
theorem y_seq {a b:RCode}:wpRC E gf (.seq a b) Q s=wpRC E gf a (thenQ (wpRC E gf b Q) Q) s:=propext Iff.rfl
theorem y_block {id:Nat} {a:RCode}:wpRC E gf (.block id a) Q s=wpRC E gf a (blockQ id Q) s:=propext Iff.rfl
theorem y_rng {g:Opd} {p:Nat} {ia ib:ICode}:wpRC E gf (.rng g p ia ib) Q s=@RG s ⟨(E,gf,g,p,ia,ib,Q)⟩:=propext Iff.rfl
def RK (I:Heap -> Nat -> Prop) (e:IExit) (s:St):Prop:=e = .normal /\ I s.hp s.nx
theorem rk_of {I:Heap -> Nat -> Prop} {tm:List (Nat × Value)} {hp:Heap} {nx:Nat} (h:I hp nx):RK I .normal ⟨tm,hp,nx⟩:=⟨rfl,h⟩
theorem rg_parts {g:Opd} {p:Nat} {ia ib:ICode} {tm:List (Nat × Value)} {hp:Heap} {nx:Nat} (I:Nat -> Heap -> Nat -> Prop) {k e sz:Nat} {x:Bool} {a:Option Addr} {len cap:Nat}
  (hg:ev tm g = .func (.func gf) ⟨[]⟩ ⟨[.pointer (some ⟨k,0,none⟩)]⟩) (hk:hget hp k=some ⟨e,sz,x,[.slice a len cap]⟩) (hl:len <= 1000) (h0:I 0 hp nx)
  (hb:∀ i hp' nx',I i hp' nx' -> i < len -> nx <= nx' -> wpI E (.seq ia ib) (RK (I (i+1))) ⟨(p,.int .i64 i) :: tm,hp',nx'⟩)
  (hd:∀ hp' nx',I len hp' nx' -> nx <= nx' -> Q .normal ⟨tm,hp',nx'⟩):@RG ⟨tm,hp,nx⟩ ⟨(E,gf,g,p,ia,ib,Q)⟩:=
 ⟨k,e,sz,x,a,len,cap,I,hg,hk,hl,h0,hb,hd⟩
theorem wpRC_mono:∀ (c:RCode) {Q Q':IExit -> St -> Prop} {s:St},(∀ e s,Q e s -> Q' e s) -> wpRC E gf c Q s -> wpRC E gf c Q' s
 | .plain c,Q,Q',s,h,hh=>wpI_mono c h hh
 | .seq a b,Q,Q',s,h,hh=>wpRC_mono a (fun e s he=>by
   cases e <;> simp only [thenQ] at he ⊢
   ·exact wpRC_mono b h he
   ·exact h _ _ he
   ·exact h _ _ he) hh
 | .block id a,Q,Q',s,h,hh=>wpRC_mono a (fun e s he=>by
   cases e <;> simp only [blockQ] at he ⊢
   ·exact h _ _ he
   ·split at he
    ·rename_i c;rw [if_pos c];exact h _ _ he
    ·rename_i c;rw [if_neg c];exact h _ _ he
   ·exact h _ _ he) hh
 | .rng g p ia ib,Q,Q',s,h,hh=>by
  obtain ⟨k,e,sz,x,a,len,cap,I,h1,h2,hl,h3,h4,h5⟩:=hh
  exact ⟨k,e,sz,x,a,len,cap,I,h1,h2,hl,h3,h4,fun hp nx hi hn=>h _ _ (h5 hp nx hi hn)⟩
end
theorem newR_run {P:Program} {E:Env} (hE:EnvOK P E) (hm:P.follows .mixedOrders=true) {gf:Nat} (hit:Iters P gf) {f:Nat} {nt:Nat} {res:List IRes} {c:RCode} (ht:trFunR P f=some ⟨nt,res,c⟩) {F:List Value -> Heap -> Option NewL}
  (mono:∀ args h h' r,hle h h' -> F args h=some r -> F args h'=some r)
  (hrun:∀ args h N r,F args h=some r -> (∀ k b,hget h k=some b -> k < N) -> r.Par h /\ args.length <= nt /\ wpRC E gf c (FinL res r h N) ⟨initT args,h,N+0⟩):SpecOK P f (nwL F):=by
 refine rspec_ok hE hm hit ht ?_ ?_
 ·intro args h h' n o hl e
  simp only [nwL,Option.map_eq_some_iff] at e ⊢
  obtain ⟨v,e1,e2⟩:=e
  exact ⟨v,mono args h h' v hl e1,e2⟩
 ·intro args h n v δ m N e hn hN hfr
  simp only [nwL,Option.map_eq_some_iff,Prod.mk.injEq] at e
  obtain ⟨r,e1,rfl,rfl,rfl⟩:=e
  obtain ⟨par,h2,h3⟩:=hrun args h N r e1 hN
  refine ⟨h2,wpRC_mono _ ?_ h3⟩
  rintro e s ⟨he,σ,vs,hσ,hinj,hvs,hvk,hblk,hh⟩
  have b1:∀ i,i < r.m -> iotaE ((List.range r.m).map fun i=>(n+i,σ i)) N (n+i)=some ⟨σ i,0,[]⟩:=fun i hi=>by
   rw [iotaL,if_pos ⟨by omega,by omega⟩,Nat.add_sub_cancel_left]
  have b2:∀ k,hget h k ≠ none -> iotaE ((List.range r.m).map fun i=>(n+i,σ i)) N k=some ⟨k,0,[]⟩:=fun k hk=>by
   have hlt:k < N:=by
    cases e:hget h k with
    | none=>exact absurd e hk
    | some b=>exact hN k b e
   rw [iotaL,if_neg (fun c=>hk (hfr k c.1 c.2)),if_pos hlt]
  refine ⟨he,vs,hvs,(List.range r.m).map fun i=>(n+i,σ i),?_,?_,?_,?_⟩
  ·intro p hp
   simp only [List.mem_map,List.mem_range] at hp
   obtain ⟨i,hi,rfl⟩:=hp
   simp only;omega
  ·rw [hvk];exact par.val _ _ _ b1 b2
  ·intro k blk e
   by_cases c:n <= k /\ k < n+r.m
   ·obtain ⟨i,rfl⟩:∃ i,k=n+i:=⟨k - n,by omega⟩
    have hi:i < r.m:=by omega
    rw [newH_get r.m (fun a b _ _ e=>by simpa using e) i hi] at e
    cases e
    obtain ⟨x,hx⟩:=hblk i hi
    exact .inr ⟨_,_,b1 i hi,hx,rfl,rfl,(fun h=>by cases h),par.cells _ _ _ b1 b2 i hi⟩
   ·rw [newH_old r.m (fun i hi e=>c (by omega))] at e
    have hlt:=hN k blk e
    exact .inl ⟨hlt,e,by rw [hh k hlt];exact e⟩
  ·intro k1 k2 L1 L2 a1 a2 c1 c2 e
   rw [iotaL] at c1 c2
   by_cases d1:n <= k1 /\ k1 < n+r.m
   ·rw [if_pos d1] at c1;cases c1
    by_cases d2:n <= k2 /\ k2 < n+r.m
    ·rw [if_pos d2] at c2;cases c2
     have:=hinj (k1 - n) (k2 - n) (by omega) (by omega) e
     omega
    ·rw [if_neg d2] at c2
     split at c2
     ·cases c2
      have:=hσ (k1 - n) (by omega)
      simp only at e;omega
     ·cases c2
   ·rw [if_neg d1] at c1
    split at c1
    ·cases c1
     by_cases d2:n <= k2 /\ k2 < n+r.m
     ·rw [if_pos d2] at c2;cases c2
      have:=hσ (k2 - n) (by omega)
      simp only at e;omega
     ·rw [if_neg d2] at c2
      split at c2
      ·cases c2;exact e
      ·cases c2
    ·cases c1
theorem i_clr {E:Env} {ρ:Opd -> Value} {h:Heap} {n:Nat} {z:List Value} {s:Opd} {k off len c:Nat} {blk:Blk} (hv:ρ s = .slice (some ⟨k,off,none⟩) len c) (h0:len ≠ 0) (hk:hget h k=some blk) (h1:blk.sz ≠ 0) (h2:off+len * z.length <= blk.cells.length) :
  istep E ρ h n (.clr z s)=some (undef,[(k,some { blk with cells:=setR blk.cells off (List.replicate len z).flatten })],0):=by
 simp only [istep,hv]
 cases len with
 | zero=>exact absurd rfl h0
 | succ len=>simp only [hk];rw [if_pos ⟨h1,h2⟩]
theorem upv_run {P:Program} {E:Env} (hE:EnvOK P E) (hm:P.follows .mixedOrders=true) {f:Nat} {nt:Nat} {res:List IRes} {c:ICode} (ht:trFun P f=some ⟨nt,res,c⟩) {F:List Value -> Heap -> Option (Value × Nat × Blk)}
  (mono:∀ args h h' v,hle h h' -> F args h=some v -> F args h'=some v)
  (hrun:∀ args v k b h N,F args h=some (v,k,b) -> (∀ k b,hget h k=some b -> k < N) -> k < N /\ b.cells.all isBase=true /\ (∀ β:Emb,β k=some ⟨k,0,[]⟩ -> VR β v v) /\ args.length <= nt /\ wpI E c (FinU res v k b h N) ⟨initT args,h,N+0⟩):SpecOK P f (upS F):=by
 refine spec_ok hE hm ht ?_ ?_
 ·intro args h h' n o hl e
  simp only [upS,Option.map_eq_some_iff] at e ⊢
  obtain ⟨v,e1,e2⟩:=e
  exact ⟨v,mono args h h' v hl e1,e2⟩
 ·intro args h n v δ m N e hn hN _
  simp only [upS,Option.map_eq_some_iff,Prod.mk.injEq] at e
  obtain ⟨⟨v0,k,b⟩,e1,rfl,rfl,rfl⟩:=e
  obtain ⟨hk,hb,hv,h2,h3⟩:=hrun args v0 k b h N e1 hN
  refine ⟨h2,wpI_mono _ ?_ h3⟩
  rintro e s ⟨he,vs,hvs,hvk,hbk,hh⟩
  refine ⟨he,vs,hvs,[],fun p hp=>(by simp at hp),by rw [hvk];exact hv _ (by rw [iota0,if_pos hk]),?_,?_⟩
  ·intro k' blk e
   simp only [List.cons_append,List.nil_append,hget] at e
   by_cases c:k=k'
   ·rw [if_pos c] at e;cases e
    refine .inr ⟨⟨k,0,[]⟩,b,by rw [iota0,if_pos (by omega),c],hbk,rfl,rfl,id,VRs.of_base hb⟩
   ·rw [if_neg c] at e
    have hlt:=hN k' blk e
    exact .inl ⟨hlt,e,by rw [hh k' hlt (fun e=>c e.symm)];exact e⟩
  ·intro k1 k2 L1 L2 a1 a2 b1 b2 e
   rw [iota0] at b1 b2
   by_cases c1:k1 < N
   ·by_cases c2:k2 < N
    ·rw [if_pos c1] at b1;rw [if_pos c2] at b2
     cases b1;cases b2;exact e
    ·rw [if_neg c2] at b2;cases b2
   ·rw [if_neg c1] at b1;cases b1
end Go.Eng
end
section
set_option maxRecDepth 20000
namespace Go.Eng
open Go Go.Proofs Go.IntWalk
def intZ (l:List Int):List Value:=l.map fun z => .int .i64 z
def unZ:List Value -> Option (List Int)
 | []=>some []
 | .int .i64 z :: r=>(unZ r).map (z :: ·)
 | _=>none
theorem unZ_eq:∀ {cs:List Value} {l:List Int},unZ cs=some l -> cs=intZ l
 | [],l,e=>by simp [unZ] at e;subst e;rfl
 | c :: r,l,e=>by
  unfold unZ at e
  split at e
  ·cases ‹_=([]:List Value)›
  ·rename_i z r' h
   cases h
   rw [Option.map_eq_some_iff] at e
   obtain ⟨l',h1,rfl⟩:=e
   rw [unZ_eq h1];rfl
  ·cases e
theorem unZ_of:∀ l:List Int,unZ (intZ l)=some l
 | []=>rfl
 | z :: l=>by
  show (unZ (intZ l)).map (z :: ·)=_
  rw [unZ_of l];rfl
theorem intZ_len (l:List Int):(intZ l).length=l.length:=by unfold intZ;rw [List.length_map]
theorem intZ_base (l:List Int):(intZ l).all isBase=true:=by
 rw [List.all_eq_true]
 intro v hv
 unfold intZ at hv
 obtain ⟨z,_,rfl⟩:=List.mem_map.1 hv
 rfl
theorem intZ_get {l:List Int} {i:Nat} {z:Int} (h:l[i]?=some z):(intZ l)[i]?=some (.int .i64 z):=by unfold intZ;rw [List.getElem?_map,h];rfl
theorem intZ_set (l:List Int) (i:Nat) (z:Int):(intZ l).set i (.int .i64 z)=intZ (l.set i z):=by unfold intZ;rw [List.map_set]
theorem intZ_take (l:List Int) (i:Nat):(intZ l).take i=intZ (l.take i):=by unfold intZ;rw [List.map_take]
theorem setR_intZ:∀ (xs l:List Int) (i:Nat),i+xs.length=l.length -> setR (intZ l) i (intZ xs)=intZ (l.take i ++ xs)
 | [],l,i,h=>by
  simp only [List.length_nil,Nat.add_zero] at h
  show intZ l=_
  rw [List.append_nil,List.take_of_length_le (by omega)]
 | x :: xs,l,i,h=>by
  simp only [List.length_cons] at h
  show setR ((intZ l).set i (.int .i64 x)) (i+1) (intZ xs)=_
  rw [intZ_set,setR_intZ xs _ (i+1) (by rw [List.length_set];omega)]
  congr 1
  have e:(l.set i x).take (i+1)=l.take i ++ [x]:=by
   rw [List.set_eq_take_append_cons_drop,if_pos (by omega),List.take_append,List.length_take,Nat.min_eq_left (by omega),List.take_of_length_le (by rw [List.length_take];omega),show i+1 - i=1 by omega]
   rfl
  rw [e,List.append_assoc];rfl
def spCloneI:List Value -> Heap -> Option ((Nat -> Value) × Blk)
 | [.slice (some ⟨k,0,none⟩) n c],h=>match hget h k with
  | some ⟨_,_,_,cs⟩=>match unZ (cs.take n) with
   | some l=>if 0 < n /\ n <= cs.length /\ n <= 1000 then some (fun k => .slice (some ⟨k,0,none⟩) n n,⟨3,1,false,intZ l⟩) else none
   | none=>none
  | none=>none
 | _,_=>none
def c34:ICode:=
 (.seq (.reg [qq 2 (.mv (.c (.slice none 0 0)))]) (.seq (.seq (.reg [qq 3 (.mv (.t 0)),qq 4 (.nils false (.t 3) (.c (.slice none 0 0)))]) (.cond (.t 4) (.seq (.reg [qq 2 (.mv (.c (.slice none 0 0)))]) .ret) .skip)) (.seq (.reg [qq 5 (.bslice 3 1 0 [] []),qq 6 (.mv (.t 0)),qq 7 (.app 3 1 8 (.t 5) (.t 6)),qq 2 (.mv (.t 7))]) .ret)))
theorem tr34:trFun Tryz.prog 34=some ⟨8,[.t 2],c34⟩:=by kernel_rfl
set_option maxHeartbeats 2000000 in
theorem ok_cloneI:SpecOK Tryz.prog 34 (nwS spCloneI):=by
 refine nw_run (env_nil _) mixed tr34 ?_ ?_
 ·intro args h h' r hle e
  unfold spCloneI at e ⊢
  split at e
  ·split at e
   ·rename_i b1
    simp only [hle _ _ b1];exact e
   ·cases e
  ·cases e
 intro args vf b h N hG hN
 unfold spCloneI at hG
 split at hG
 case h_2=>cases hG
 rename_i k n c
 split at hG
 case h_2=>cases hG
 rename_i el sz x cs hb
 split at hG
 case h_2=>cases hG
 rename_i l hl
 split at hG
 case isFalse=>cases hG
 rename_i hn
 cases hG
 have nk:=hN _ _ hb
 refine ⟨rfl,intZ_base l,vr1_sl 0 n n,by simp,?_⟩
 have ec:=unZ_eq hl
 have ll:l.length=n:=by
  have:=congrArg List.length ec
  rw [List.length_take,intZ_len] at this;omega
 have sr:∀ b:Option Blk,srcOf ((N+0,b) :: h) 1 n (some ⟨k,0,none⟩)=some (intZ l):=fun b=>by
  have e1:hget ((N+0,b) :: h) k=some ⟨el,sz,x,cs⟩:=by
   simp only [hget,show (N+0=k)=False from eq_false (by omega),if_false];exact hb
  unfold srcOf
  simp only [e1,Option.bind_some]
  rw [if_pos (by omega),Nat.mul_one,List.drop_zero,ec]
 have ln:=intZ_len l
 rw [ll] at ln
 have lok:(intZ l).all okCell=true:=by
  rw [List.all_eq_true]
  intro v hv
  unfold intZ at hv
  obtain ⟨z,_,rfl⟩:=List.mem_map.1 hv
  rfl
 have z':(n=0)=False:=eq_false (by omega)
 have z2:(n <= 0)=False:=eq_false (by omega)
 have b1:(n * 8 <= 140737488355328)=True:=eq_true (by omega)
 generalize intZ l=L at *
 simp only [c34,G0,Nat.reduceAdd]
 simp only [↓R0,R1,simprocAttr,-Int.reduceAbs,sr,z',z2,b1,ln,lok,Nat.zero_add,Nat.zero_mul,Bool.not_false,Bool.not_true,FinN,isEnd,resL,res1]
 refine ⟨_,N+1,false,rfl,rfl,by omega,?_,fun k hk=>?_⟩
 ·simp only [↓R0,R1,simprocAttr,-Int.reduceAbs]
 ·have nb:∀ q,(N+q=k)=False:=fun q=>eq_false (by omega)
  simp only [↓R0,R1,simprocAttr,-Int.reduceAbs,nb]
def spEq2:List Value -> Heap -> Option Value
 | [.int .i64 y,.pointer (some ⟨k,0,none⟩)],h=>match hget h k with
  | some ⟨_,_,_,[.int .i64 x]⟩=>some (.bool (decide (x=y)))
  | _=>none
 | _,_=>none
def c35:ICode:=
 (.seq (.reg [qq 3 (.mv (.c (.bool false)))]) (.seq (.reg [qq 4 (.load false 1 (.t 1)),qq 5 (.mv (.t 0)),qq 6 (.bin .eql (.t 4) (.t 5)),qq 3 (.mv (.t 6))]) .ret))
theorem tr35:trFun Tryz.prog 35=some ⟨7,[.t 3],c35⟩:=by kernel_rfl
theorem ok_eq2:SpecOK Tryz.prog 35 (rdS spEq2):=by
 refine rd_run (env_nil _) mixed tr35 ?_ ?_
 ·intro args h h' v hle e
  unfold spEq2 at e ⊢
  split at e
  ·split at e
   ·rename_i b1
    simp only [hle _ _ b1];exact e
   ·cases e
  ·cases e
 intro args v h N hG hN
 unfold spEq2 at hG
 split at hG
 case h_2=>cases hG
 rename_i y k
 split at hG
 case h_2=>cases hG
 rename_i e z x0 x hb
 cases hG
 have nk:=hN _ _ hb
 refine ⟨by rfl,by simp,?_⟩
 have Nk:∀ j,(N+j=k)=False:=fun j=>eq_false (by omega)
 simp only [c35,G0,Nat.reduceAdd]
 simp only [↓R0,R1,simprocAttr,-Int.reduceAbs,Nk,hb,Fin,isEnd,resL,res1]
 exact ⟨_,rfl,rfl,fun k hk=>by simp only [ne_nb hk,if_false]⟩
def spIdxI:List Value -> Heap -> Option Value
 | [.slice (some ⟨k,0,none⟩) n c,.func (.func f) ⟨[]⟩ ⟨[.pointer (some ⟨kx,0,none⟩)]⟩],h=>match hget h k,hget h kx with
  | some ⟨_,_,_,cs⟩,some ⟨_,_,_,[.int .i64 x]⟩=>match unZ cs with
   | some l=>if f=35 /\ n=l.length /\ n <= 1000 then some (.int .i64 (fidx (fun z=>decide (x=z)) l 0)) else none
   | none=>none
  | _,_=>none
 | _,_=>none
def c52:ICode:=
 (.seq (.reg [qq 4 (.mv (ci 0))]) (.seq (.seq (.reg [qq 6 (.mv (.t 0)),qq 7 (.lensl (.t 6)),qq 8 (.mv (ci 0))]) (.block 0 (.loop (.seq (.reg [qq 9 (.bin .lss (.t 8) (.t 7))]) (.seq (.cond (.t 9) .skip (.exit 0)) (.seq (.block 1 (.seq (.reg [qq 10 (.mv (.t 8)),qq 5 (.mv (.t 10))]) (.seq (.reg [qq 11 (.mv (.t 1)),qq 12 (.mv (.t 0)),qq 13 (.mv (.t 5)),qq 14 (.ixsl 1 (.t 12) (.t 13)),qq 15 (.load false 1 (.t 14)),qq 16 (.callv (.t 11) [(.t 15)])]) (.cond (.t 16) (.seq (.reg [qq 17 (.mv (.t 5)),qq 4 (.mv (.t 17))]) .ret) .skip)))) (.reg [qq 18 (.bin .add (.t 8) (ci 1)),qq 8 (.mv (.t 18))]))))))) (.seq (.reg [qq 4 (.mv (ci (-1)))]) .ret)))
theorem tr52:trFun Tryz.prog 52=some ⟨19,[.t 4],c52⟩:=by kernel_rfl
set_option maxHeartbeats 4000000 in
theorem ok_idxI:SpecOK Tryz.prog 52 (rdS spIdxI):=by
 refine rd_run (env_cons ok_eq2 (env_nil _)) mixed tr52 ?_ ?_
 ·intro args h h' v hle e
  unfold spIdxI at e ⊢
  split at e
  ·split at e
   ·rename_i b1 b2
    simp only [hle _ _ b1,hle _ _ b2];exact e
   ·cases e
  ·cases e
 intro args v h N hG hN
 unfold spIdxI at hG
 split at hG
 case h_2=>cases hG
 rename_i k n c f kx
 split at hG
 case h_2=>cases hG
 rename_i e1 z1 x1 cs e2 z2 x2 x hb hb0
 split at hG
 case h_2=>cases hG
 rename_i l hl
 split at hG
 case isFalse=>cases hG
 rename_i hs
 obtain ⟨rfl,rfl,hn⟩:=hs
 cases hG
 have ec:=unZ_eq hl
 subst ec
 refine ⟨by rfl,by simp,?_⟩
 simp only [c52,G0,Nat.reduceAdd]
 simp only [↓R0,R1,simprocAttr,-Int.reduceAbs]
 refine lp_parts (fun q tm hp nx=>∃ (i M:Nat),q+i=l.length /\ tmget tm 0 = .slice (some ⟨k,0,none⟩) l.length c /\ tmget tm 1 = .func (.func 35) ⟨[]⟩ ⟨[.pointer (some ⟨kx,0,none⟩)]⟩ /\ tmget tm 7 = .int .i64 l.length /\ tmget tm 8 = .int .i64 i /\ (∀ j' p,j' < i -> l[j']?=some p -> decide (x=p)=false) /\ (∀ q,q < N -> hget hp q=hget h q) /\ N <= M /\ nx=M+0) ?_ l.length
  ⟨0,N,by omega,?_,?_,?_,?_,fun j' p hj=>absurd hj (Nat.not_lt_zero _),?_,Nat.le_refl _,rfl⟩
 rotate_left
 all_goals first | (simp only [↓R0,R1,simprocAttr,-Int.reduceAbs];done) | (simp only [↓R0,R1,simprocAttr,-Int.reduceAbs];rfl) | skip
 ·exact fun q _=>rfl
 rintro q tm hp nx ⟨i,M,hni,t0,t1,t7,t8,hall,hh,hM,hnx⟩
 rw [hnx]
 clear hnx nx
 have w1:IntKind.i64.wrap ((i:Int)+1)=((i+1:Nat):Int):=by rw [i64_in _ (by omega)];omega
 by_cases c1:i < l.length
 case neg=>
  have e:i=l.length:=by omega
  subst e
  have c1':((l.length:Int) < (l.length:Int))=False:=eq_false (by omega)
  rw [fidx_miss (fun j' p hj hp=>hall j' p hj hp)]
  simp only [↓R0,R1,simprocAttr,-Int.reduceAbs,t0,t1,t7,t8,c1',Fin,isEnd,resL,res1]
  exact ⟨_,rfl,rfl,hh⟩
 have c1':((i:Int) < (l.length:Int))=True:=eq_true (by omega)
 obtain ⟨z,pt⟩:∃ z,l[i]?=some z:=⟨_,List.getElem?_eq_getElem c1⟩
 have hbb:hget hp k=some ⟨e1,z1,x1,intZ l⟩:=by rw [hh k (hN _ _ hb)];exact hb
 have hb0':hget hp kx=some ⟨e2,z2,x2,[.int .i64 x]⟩:=by rw [hh kx (hN _ _ hb0)];exact hb0
 have q2:=intZ_get pt
 have q1:=intZ_len l
 have ck:spEq2 [.int .i64 z,.pointer (some ⟨kx,0,none⟩)] hp=some (.bool (decide (x=z))):=by
  unfold spEq2
  simp only [hb0']
 generalize intZ l=L at *
 by_cases ez:x=z
 ·rw [fidx_hit hall pt (decide_eq_true ez)]
  rw [decide_eq_true ez] at ck
  simp only [↓R0,R1,simprocAttr,-Int.reduceAbs,rdS,callF,List.append_nil,Nat.zero_add,t0,t1,t7,t8,c1,c1',hbb,q1,q2,ck,Fin,isEnd,resL,res1]
  exact ⟨_,rfl,rfl,hh⟩
 ·rw [decide_eq_false ez] at ck
  have hall':∀ j' p,j' < i+1 -> l[j']?=some p -> decide (x=p)=false:=fun j' p hj hp=>by
   by_cases e:j'=i
   ·subst e;rw [pt] at hp;cases hp;exact decide_eq_false ez
   ·exact hall j' p (by omega) hp
  simp only [↓R0,R1,simprocAttr,-Int.reduceAbs,rdS,callF,List.append_nil,Nat.zero_add,t0,t1,t7,t8,c1,c1',hbb,q1,q2,ck,w1]
  exact ⟨q - 1,by omega,i+1,M,by omega,rfl,hall',hh,hM,rfl⟩
def delL (x:Int) (l:List Int):List Int:=l.filter fun z=>!decide (x=z)
theorem delL_len (x:Int) (l:List Int):(delL x l).length <= l.length:=List.length_filter_le _ _
theorem delL_succ {x z:Int} {l:List Int} {j:Nat} (h:l[j]?=some z):delL x (l.take (j+1))=delL x (l.take j) ++ (if x=z then [] else [z]):=by
 unfold delL
 rw [List.take_add_one,h,List.filter_append]
 by_cases e:x=z <;> simp [e]
theorem delL_none {x:Int}:∀ {l:List Int},(∀ z ∈ l,x ≠ z) -> delL x l=l:=fun h=>List.filter_eq_self.2 fun z hz=>by simp [h z hz]
def spDel:List Value -> Heap -> Option (Value × Nat × Blk)
 | [.slice (some ⟨k,0,none⟩) n c,.func (.func f) ⟨[]⟩ ⟨[.pointer (some ⟨kx,0,none⟩)]⟩],h=>match hget h k,hget h kx with
  | some ⟨el,sz,xb,cs⟩,some ⟨_,_,_,[.int .i64 x]⟩=>match unZ cs with
   | some l=>if f=35 /\ n=l.length /\ n <= c /\ n <= 1000 /\ sz=1 /\ k ≠ kx then
     some (.slice (some ⟨k,0,none⟩) (delL x l).length c,k,⟨el,sz,xb,intZ (delL x l ++ List.replicate (n - (delL x l).length) 0)⟩) else none
   | none=>none
  | _,_=>none
 | _,_=>none
theorem fidx_none {α:Type} {p:α -> Bool} {l:List α} (h:fidx p l 0=-1):∀ z ∈ l,p z=false:=by
 intro z hz
 cases hp:p z with
 | false=>rfl
 | true=>
  have:=(fidx_nn (p:=p) (l:=l) (i:=0)).2 ⟨z,hz,hp⟩
  omega
theorem fidx_first {α:Type} {p:α -> Bool} {l:List α} (h:0 <= fidx p l 0):∃ (i:Nat) (z:α),fidx p l 0=i /\ (∀ j y,j < i -> l[j]?=some y -> p y=false) /\ l[i]?=some z /\ p z=true:=by
 obtain ⟨z,hz,hp⟩:=fidx_nn.1 h
 have lt:l.findIdx p < l.length:=List.findIdx_lt_length_of_exists ⟨z,hz,hp⟩
 have bf:∀ j y,j < l.findIdx p -> l[j]?=some y -> p y=false:=fun j y hj hy=>by
  have:=List.not_of_lt_findIdx hj
  rw [List.getElem?_eq_getElem (by omega)] at hy
  cases hy;simpa using this
 have hit:p (l[l.findIdx p]'lt)=true:=List.findIdx_getElem
 exact ⟨l.findIdx p,_,fidx_hit bf (List.getElem?_eq_getElem lt) hit,bf,List.getElem?_eq_getElem lt,hit⟩
def c33:ICode:=
 (.seq (.reg [qq 4 (.mv (.c (.slice none 0 0)))]) (.seq (.reg [qq 8 (.mv (.t 0)),qq 9 (.mv (.t 1)),qq 10 (.call 52 [(.t 8),(.t 9)]),qq 5 (.mv (.t 10))]) (.seq (.seq (.reg [qq 11 (.mv (.t 5)),qq 12 (.bin .eql (.t 11) (ci (-1)))]) (.cond (.t 12) (.seq (.reg [qq 13 (.mv (.t 0)),qq 4 (.mv (.t 13))]) .ret) .skip)) (.seq (.seq (.reg [qq 14 (.mv (.t 5)),qq 15 (.bin .add (.t 14) (ci 1)),qq 6 (.mv (.t 15))]) (.block 0 (.loop (.seq (.seq (.reg [qq 16 (.mv (.t 6)),qq 17 (.mv (.t 0)),qq 18 (.lensl (.t 17)),qq 19 (.bin .lss (.t 16) (.t 18))]) (.cond (.t 19) .skip (.exit 0))) (.seq (.block 1 (.seq (.reg [qq 22 (.mv (.t 0)),qq 23 (.mv (.t 6)),qq 24 (.ixsl 1 (.t 22) (.t 23)),qq 25 (.load false 1 (.t 24)),qq 7 (.mv (.t 25))]) (.seq (.reg [qq 26 (.mv (.t 1)),qq 27 (.mv (.t 7)),qq 28 (.callv (.t 26) [(.t 27)]),qq 29 (.un .not (.t 28))]) (.cond (.t 29) (.seq (.reg [qq 30 (.mv (.t 0)),qq 31 (.mv (.t 5)),qq 32 (.mv (.t 7)),qq 33 (.ixsl 1 (.t 30) (.t 31)),qn (.store 1 (.t 33) (.t 32))]) (.reg [qq 34 (.mv (.t 5)),qq 35 (.bin .add (.t 34) (ci 1)),qq 5 (.mv (.t 35))])) .skip)))) (.reg [qq 20 (.mv (.t 6)),qq 21 (.bin .add (.t 20) (ci 1)),qq 6 (.mv (.t 21))])))))) (.seq (.reg [qq 36 (.mv (.t 0)),qq 37 (.mv (.t 5)),qq 38 (.slsl 1 (.t 36) (some (.t 37)) none),qn (.clr [(.int .i64 0)] (.t 38))]) (.seq (.reg [qq 39 (.mv (.t 0)),qq 40 (.mv (.t 5)),qq 41 (.slsl 1 (.t 39) none (some (.t 40))),qq 4 (.mv (.t 41))]) .ret))))))
theorem tr33:trFun Tryz.prog 33=some ⟨42,[.t 4],c33⟩:=by kernel_rfl
set_option maxHeartbeats 8000000 in
theorem ok_delI:SpecOK Tryz.prog 33 (upS spDel):=by
 refine upv_run (env_cons ok_idxI (env_cons ok_eq2 (env_nil _))) mixed tr33 ?_ ?_
 ·intro args h h' v hle e
  unfold spDel at e ⊢
  split at e
  ·split at e
   ·rename_i b1 b2
    simp only [hle _ _ b1,hle _ _ b2];exact e
   ·cases e
  ·cases e
 intro args v k b0 h N hG hN
 unfold spDel at hG
 split at hG
 case h_2=>cases hG
 rename_i kk n c f kx
 split at hG
 case h_2=>cases hG
 rename_i el sz xb cs e2 z2 x2 x hb hb0
 split at hG
 case h_2=>cases hG
 rename_i l hl
 split at hG
 case isFalse=>cases hG
 rename_i hs
 obtain ⟨rfl,rfl,hnc,hn,rfl,hne⟩:=hs
 cases hG
 have ec:=unZ_eq hl
 subst ec
 refine ⟨hN _ _ hb,intZ_base _,fun β hβ=>VR.sl k 0 _ _ ⟨k,0,[]⟩ hβ,by simp,?_⟩
 have ix:spIdxI [.slice (some ⟨k,0,none⟩) l.length c,.func (.func 35) ⟨[]⟩ ⟨[.pointer (some ⟨kx,0,none⟩)]⟩] h=some (.int .i64 (fidx (fun z=>decide (x=z)) l 0)):=by
  unfold spIdxI
  simp only [hb,hb0,unZ_of]
  rw [if_pos ⟨trivial,trivial,hn⟩]
 have dl:=delL_len x l
 by_cases miss:fidx (fun z=>decide (x=z)) l 0=-1
 ·have dn:delL x l=l:=delL_none fun z hz e=>by
   have:=fidx_none miss z hz
   rw [decide_eq_true e] at this;cases this
  rw [dn,Nat.sub_self,List.replicate_zero,List.append_nil]
  rw [miss] at ix
  have nk:=hN _ _ hb
  have Nk:∀ j,(N+j=k)=False:=fun j=>eq_false (by omega)
  simp only [c33,G0,Nat.reduceAdd]
  simp only [↓R0,R1,simprocAttr,-Int.reduceAbs,rdS,ix,FinU,isEnd,resL,res1]
  exact ⟨_,rfl,rfl,hb,fun q _ _=>trivial⟩
 have pos:0 <= fidx (fun z=>decide (x=z)) l 0:=by
  by_cases e:∃ z ∈ l,decide (x=z)=true
  ·exact fidx_nn.2 e
  ·refine absurd (fidx_miss fun j p _ hp=>?_) miss
   cases hq:decide (x=p) with
   | false=>rfl
   | true=>exact absurd ⟨p,List.mem_of_getElem? hp,hq⟩ e
 obtain ⟨i0,z0,hi0,before,hz0,hx0⟩:=fidx_first pos
 have i0l:i0 < l.length:=(List.getElem?_eq_some_iff.1 hz0).1
 have d0:delL x (l.take i0)=l.take i0:=delL_none fun z hz e=>by
  obtain ⟨j,hj⟩:=List.getElem?_of_mem hz
  have hlt:=(List.getElem?_eq_some_iff.1 hj).1
  rw [List.length_take] at hlt
  rw [List.getElem?_take_of_lt (by omega)] at hj
  have:=before j z (by omega) hj
  rw [decide_eq_true e] at this;cases this
 have d1:delL x (l.take (i0+1))=l.take i0:=by
  rw [delL_succ hz0,if_pos (of_decide_eq_true hx0),d0,List.append_nil]
 rw [hi0] at ix
 have im:((i0:Int)=-1)=False:=eq_false (by omega)
 have w0:IntKind.i64.wrap ((i0:Int)+1)=((i0+1:Nat):Int):=by rw [i64_in _ (by omega)];omega
 simp only [c33,G0,Nat.reduceAdd]
 simp only [↓R0,R1,simprocAttr,-Int.reduceAbs,rdS,ix,im,w0]
 refine lp_parts (fun q tm hp nx=>∃ (i j M:Nat) (W:List Int),q+j=l.length /\ W.length=l.length /\ i < j /\ i=(delL x (l.take j)).length /\ W.take i=delL x (l.take j) /\ W.drop j=l.drop j /\ tmget tm 0 = .slice (some ⟨k,0,none⟩) l.length c /\ tmget tm 1 = .func (.func 35) ⟨[]⟩ ⟨[.pointer (some ⟨kx,0,none⟩)]⟩ /\ tmget tm 5 = .int .i64 i /\ tmget tm 6 = .int .i64 j /\ hget hp k=some ⟨el,1,xb,intZ W⟩ /\ (∀ q,q < N -> q ≠ k -> hget hp q=hget h q) /\ N <= M /\ nx=M+0) ?_ (l.length - (i0+1))
  ⟨i0,i0+1,N,l,by omega,rfl,by omega,?_,?_,rfl,?_,?_,?_,?_,?_,?_,Nat.le_refl _,rfl⟩
 rotate_left
 ·rw [d1,List.length_take];omega
 ·exact d1.symm
 all_goals first | (simp only [↓R0,R1,simprocAttr,-Int.reduceAbs];done) | (simp only [↓R0,R1,simprocAttr,-Int.reduceAbs];rfl) | skip
 ·exact hb
 ·exact fun q _ _=>rfl
 rintro q tm hp nx ⟨i,j,M,W,hq,hW,hij,hi,hWi,hWj,t0,t1,t5,t6,hbb,hh,hM,hnx⟩
 rw [hnx]
 clear hnx nx
 have wi:IntKind.i64.wrap ((i:Int)+1)=((i+1:Nat):Int):=by rw [i64_in _ (by omega)];omega
 have wj:IntKind.i64.wrap ((j:Int)+1)=((j+1:Nat):Int):=by rw [i64_in _ (by omega)];omega
 have nk:=hN _ _ hb
 have kM:∀ d,(M+d=k)=False:=fun d=>eq_false (by omega)
 have lW:=intZ_len W
 by_cases c1:j < l.length
 case neg=>
  have e:j=l.length:=by omega
  subst e
  rw [List.take_length] at hi hWi
  have c1':((l.length:Int) < (l.length:Int))=False:=eq_false (by omega)
  have il:i <= l.length:=by omega
  have il2:i <= c:=by omega
  have i0':(0:Int) <= (i:Int):=by omega
  have fin:setR (intZ W) i (List.replicate (l.length - i) [Value.int .i64 0]).flatten=intZ (delL x l ++ List.replicate (l.length - i) 0):=by
   have e1:(List.replicate (l.length - i) [Value.int .i64 0]).flatten=intZ (List.replicate (l.length - i) 0):=by
    unfold intZ
    rw [List.map_replicate]
    induction (l.length - i) with
    | zero=>rfl
    | succ m ih=>rw [List.replicate_succ,List.flatten_cons,ih,List.replicate_succ];rfl
   rw [e1,setR_intZ _ _ _ (by rw [List.length_replicate];omega),hWi]
  rw [<- hi]
  have mk1:mkSl k 0 1 c i l.length = .slice (some ⟨k,i,none⟩) (l.length - i) (c - i):=by unfold mkSl;rw [if_neg (by omega),Nat.mul_one,Nat.zero_add]
  have mk2:mkSl k 0 1 c 0 i = .slice (some ⟨k,0,none⟩) i c:=by unfold mkSl;rw [if_neg (by omega),Nat.sub_zero,Nat.sub_zero]
  have cl:∀ {E:Env} {tm:List (Nat × Value)} {n:Nat},tmget tm 38 = .slice (some ⟨k,i,none⟩) (l.length - i) (c - i) -> istep E (ev tm) hp n (.clr [.int .i64 0] (.t 38))=some (undef,[(k,some ⟨el,1,xb,intZ (delL x l ++ List.replicate (l.length - i) 0)⟩)],0):=fun h38=>by
   rw [i_clr (k:=k) (off:=i) (len:=l.length - i) (c:=c - i) h38 (by omega) hbb Nat.one_ne_zero (by rw [lW];simp;omega)]
   simp only [fin]
  generalize intZ (delL x l ++ List.replicate (l.length - i) 0)=CE at *
  simp only [↓R0,R1,simprocAttr,-Int.reduceAbs,t0,t1,t5,t6,c1',il,il2,hnc,i0',mk1,mk2,cl,FinU,isEnd,resL,res1]
  refine ⟨_,rfl,rfl,fun q hq1 hq2=>?_⟩
  rw [if_neg (fun e=>hq2 e.symm)]
  exact hh q hq1 hq2
 have c1':((j:Int) < (l.length:Int))=True:=eq_true (by omega)
 obtain ⟨z,pt⟩:∃ z,l[j]?=some z:=⟨_,List.getElem?_eq_getElem c1⟩
 have ptW:W[j]?=some z:=by
  have:=congrArg (fun y=>y[0]?) hWj
  simp only [List.getElem?_drop,Nat.add_zero] at this
  rw [this];exact pt
 have ds:=delL_succ (x:=x) pt
 have hb0':hget hp kx=some ⟨e2,z2,x2,[.int .i64 x]⟩:=by rw [hh kx (hN _ _ hb0) (fun e=>hne e.symm)];exact hb0
 have ck:spEq2 [.int .i64 z,.pointer (some ⟨kx,0,none⟩)] hp=some (.bool (decide (x=z))):=by
  unfold spEq2
  simp only [hb0']
 have q2:=intZ_get ptW
 have il:i < l.length:=by omega
 have dj:W.drop (j+1)=l.drop (j+1):=by
  have:=congrArg (List.drop 1) hWj
  rw [List.drop_drop,List.drop_drop] at this;exact this
 by_cases ez:x=z
 ·rw [decide_eq_true ez] at ck
  rw [if_pos ez,List.append_nil] at ds
  simp only [↓R0,R1,simprocAttr,-Int.reduceAbs,rdS,callF,List.append_nil,Nat.zero_add,Bool.not_true,t0,t1,t5,t6,c1,c1',hbb,lW,hW,q2,ck,wj]
  exact ⟨q - 1,by omega,i,j+1,M,W,by omega,hW,by omega,by rw [ds];exact hi,by rw [ds];exact hWi,dj,rfl,rfl,rfl,hh,hM,rfl⟩
 ·rw [decide_eq_false ez] at ck
  rw [if_neg ez] at ds
  have st:=intZ_set W i z
  have il1:i+1 <= l.length:=by omega
  simp only [↓R0,R1,simprocAttr,-Int.reduceAbs,rdS,callF,List.append_nil,Nat.zero_add,Bool.not_false,t0,t1,t5,t6,c1,c1',hbb,lW,hW,q2,ck,wi,wj,il,il1,st,kM]
  refine ⟨q - 1,by omega,i+1,j+1,M,W.set i z,by omega,by rw [List.length_set];exact hW,by omega,by rw [ds,List.length_append,<- hi];rfl,?_,?_,rfl,rfl,rfl,?_,hM,rfl⟩
  ·rw [ds,<- hWi,List.set_eq_take_append_cons_drop,if_pos (by omega),List.take_append,List.length_take,Nat.min_eq_left (by omega),List.take_of_length_le (by rw [List.length_take];omega),show i+1 - i=1 by omega]
   rfl
  ·rw [List.drop_set_of_lt (by omega)];exact dj
  ·intro q hq1 hq2
   rw [if_neg (fun e=>hq2 e.symm)]
   exact hh q hq1 hq2
end Go.Eng
end
section
namespace Go.Eng
open Go Go.Proofs Go.RowKit Go.Shelf
attribute [local go_sem] Oper.semAt_some
set_option maxRecDepth 100000 in
set_option maxHeartbeats 2000000 in
theorem each_iters:Iters Tryz.prog 51:=by
 refine ⟨by kernel_rfl,?_⟩
 intro W b len cap a hlen hcell l J hJ hY h0
 have h1:1 <= 3:=by omega
 refine callsIn_of_wp Tryz.func51 rfl trivial ?_ rfl
 simp only [Tryz.ntmps51,List.size_toArray,List.length_cons,List.length_nil,Nat.reduceAdd,Nat.reduceSub,Array.replicate_succ,Array.replicate_zero,List.push_toArray,List.append_toArray,List.nil_append,List.cons_append]
 gi_wp2
 gi_loopw [6] (fun i wr=>∃ k:Nat,k <= len /\ i = .int .i64 k /\ J k wr) (fun i _=>len - (intOf i).toNat)
 case atStart=>exact ⟨0,Nat.zero_le _,rfl,h0⟩
 case round=>
  obtain ⟨k,hk,rfl,hJs⟩:=hrel
  by_cases hlt:k < len
  ·obtain ⟨fn,tmps,assign,body,hy,hR⟩:=hY k wr hJs hlt
   gi_wp2
   refine hR.mono ?_
   rintro e W3 ⟨rfl,hJ3⟩
   gi_wp2
   go_roundw
   case rel=>exact ⟨k+1,by omega,by simp,hJ3⟩
   case measure=>simp [intOf];omega
  ·obtain rfl:k=len:=by omega
   gi_wp2
   go_end0
   exact ⟨⟨_,rfl⟩,hJs⟩
end Go.Eng
end
section
set_option maxRecDepth 20000
namespace Go.Eng
open Go Go.Proofs Go.IntWalk
def slOK (h:Heap):Value -> Bool
 | .slice (some ⟨k,_,none⟩) _ _=>(hget h k).isSome
 | _=>false
theorem slOK_mono {h h':Heap} {v:Value} (hl:hle h h') (e:slOK h v=true):slOK h' v=true:=by
 unfold slOK at e ⊢
 split at e
 ·rename_i k _ _ _
  cases hk:hget h k with
  | none=>simp [hk] at e
  | some b=>simp [hl _ _ hk]
 ·cases e
theorem slOK_vr {h:Heap} {v:Value} {β:Emb} (e:slOK h v=true) (hβ:∀ k,hget h k ≠ none -> β k=some ⟨k,0,[]⟩):VR β v v:=by
 unfold slOK at e
 split at e
 ·rename_i k off n c
  have:=VR.sl (β:=β) k off n c ⟨k,0,[]⟩ (hβ k (fun x=>by simp [x] at e))
  exact this
 ·cases e
def eachV (k:Nat):Value:=.func (.func 51) ⟨[]⟩ ⟨[.pointer (some ⟨k,0,none⟩)]⟩
def spEachC:List Value -> Heap -> Option NewL
 | [.slice a n c],h=>if slOK h (.slice a n c)=true then some ⟨1,fun σ=>eachV (σ 0),fun _=>22,fun _=>1,fun _ _=>[.slice a n c]⟩ else none
 | _,_=>none
def c30:ICode:=
 (.seq (.reg [qq 1 (.box 22 1 (.t 0)),qq 2 (.mv (.c .nilFunc))]) (.seq (.reg [qq 3 (.mkfn 51 [(.t 1)]),qq 2 (.mv (.t 3))]) .ret))
theorem tr30:trFun Tryz.prog 30=some ⟨4,[.t 2],c30⟩:=by kernel_rfl
theorem ok_eachC:SpecOK Tryz.prog 30 (nwL spEachC):=by
 refine newL_run (env_nil _) mixed tr30 ?_ ?_
 ·intro args h h' r hle e
  unfold spEachC at e ⊢
  split at e
  ·split at e
   ·rename_i h1
    rw [if_pos (slOK_mono hle h1)];exact e
   ·cases e
  ·cases e
 intro args h N r hG hN
 unfold spEachC at hG
 split at hG
 case h_2=>cases hG
 rename_i a n c
 split at hG
 case isFalse=>cases hG
 rename_i hs
 cases hG
 refine ⟨⟨fun β σ σ' b1 _=>?_,fun β σ σ' _ b2 i hi => .cons _ _ _ _ (slOK_vr hs b2) .nil⟩,by simp,?_⟩
 ·exact .fn _ _ _ _ _ .nil (.cons _ _ _ _ (.ptr _ _ ⟨σ' 0,0,[]⟩ (b1 0 Nat.one_pos)) .nil)
 simp only [c30,G0,Nat.reduceAdd]
 simp only [↓R0,R1,simprocAttr,-Int.reduceAbs,eachV,List.append_nil,FinL,isEnd,resL,res1]
 refine ⟨fun _=>N+0,_,fun i hi=>Nat.le_refl _,fun i j (hi:i < 1) (hj:j < 1) _=>by omega,rfl,rfl,fun i hi=>⟨true,?_⟩,fun k hk=>?_⟩
 ·simp only [↓R0,R1,simprocAttr,-Int.reduceAbs]
 ·have nb:∀ q,(N+q=k)=False:=fun q=>eq_false (by omega)
  simp only [↓R0,R1,simprocAttr,-Int.reduceAbs,nb]
def spApS:List Value -> Heap -> Option ((Nat -> Value) × Blk)
 | [.slice none 0 0,.func (.func f) ⟨[]⟩ ⟨[.pointer (some ⟨k,0,none⟩)]⟩],h=>match hget h k with
  | some ⟨_,_,_,[.slice a n c]⟩=>if f=51 /\ 0 < n /\ n <= 1000 then some (fun k => .slice (some ⟨k,0,none⟩) n n,⟨3,1,false,intC (List.range n)⟩) else none
  | _=>none
 | _,_=>none
theorem spApS_mono {args:List Value} {h h':Heap} {r:(Nat -> Value) × Blk} (hl:hle h h') (e:spApS args h=some r):spApS args h'=some r:=by
 unfold spApS at e ⊢
 split at e
 ·split at e
  ·rename_i b1
   simp only [hl _ _ b1];exact e
  ·cases e
 ·cases e
def oneL (F:List Value -> Heap -> Option ((Nat -> Value) × Blk)) (args:List Value) (h:Heap):Option NewL:=
 (F args h).map fun r=>⟨1,fun σ=>r.1 (σ 0),fun _=>r.2.elem,fun _=>r.2.sz,fun _ _=>r.2.cells⟩
theorem oneL_eq {F:List Value -> Heap -> Option ((Nat -> Value) × Blk)} (hx:∀ args h r,F args h=some r -> r.2.x=false):nwL (oneL F)=nwS F:=by
 funext args h n
 unfold nwL nwS oneL
 cases e:F args h with
 | none=>rfl
 | some r=>
  have:=hx args h r e
  obtain ⟨vf,el,sz,x,cs⟩:=r
  simp only at this
  subst this
  rfl
def c50:RCode:=
 (.seq (.plain (.reg [qq 2 (.box 27 1 (.t 0)),qq 4 (.mv (.c (.slice none 0 0)))])) (.seq (.seq (.plain (.reg [qq 6 (.mv (.t 1))])) (.block 0 (.rng (.t 6) 7 (.reg [qq 5 (.mv (.t 7))]) (.block 1 (.reg [qq 8 (.load false 1 (.t 2)),qq 9 (.mv (.t 5)),qq 10 (.bslice 3 1 1 [(.int .i64 0)] [(0,1,(.t 9))]),qq 11 (.app 3 1 8 (.t 8) (.t 10)),qn (.store 1 (.t 2) (.t 11))]))))) (.plain (.seq (.reg [qq 12 (.load false 1 (.t 2)),qq 4 (.mv (.t 12))]) .ret))))
theorem tr50:trFunR Tryz.prog 50=some ⟨13,[.t 4],c50⟩:=by kernel_rfl
set_option maxHeartbeats 4000000 in
theorem ok_apS:SpecOK Tryz.prog 50 (nwS spApS):=by
 rw [<- oneL_eq (F:=spApS) (fun args h r e=>by
  unfold spApS at e
  split at e
  ·split at e
   ·split at e
    ·cases e;rfl
    ·cases e
   ·cases e
  ·cases e)]
 refine newR_run (env_nil _) mixed each_iters tr50 ?_ ?_
 ·intro args h h' r hle e
  unfold oneL at e ⊢
  rw [Option.map_eq_some_iff] at e ⊢
  obtain ⟨r0,e1,e2⟩:=e
  exact ⟨r0,spApS_mono hle e1,e2⟩
 intro args h N r hG hN
 unfold oneL at hG
 rw [Option.map_eq_some_iff] at hG
 obtain ⟨r0,hG,rfl⟩:=hG
 unfold spApS at hG
 split at hG
 case h_2=>cases hG
 rename_i f k
 split at hG
 case h_2=>cases hG
 rename_i el sz xb a n c hb
 split at hG
 case isFalse=>cases hG
 rename_i hs
 obtain ⟨rfl,hn0,hn⟩:=hs
 cases hG
 have nk:=hN _ _ hb
 refine ⟨⟨fun β σ σ' b1 _=>VR.sl (σ 0) 0 _ _ ⟨σ' 0,0,[]⟩ (b1 0 Nat.one_pos),fun β σ σ' _ _ i hi=>VRs.of_base (intC_base _)⟩,by simp,?_⟩
 have Nk:∀ j,(N+j=k)=False:=fun j=>eq_false (by omega)
 simp only [c50,G0,Nat.reduceAdd]
 simp only [↓R0,R1,simprocAttr,-Int.reduceAbs,y_plain,y_seq,y_block,y_rng]
 refine rg_parts (fun i hp nx=>∃ (M:Nat) (sl:Value),hget hp (N+0)=some ⟨27,1,true,[sl]⟩ /\ OutI hp (N+1) M sl (List.range i) /\ (∀ q,q < N -> hget hp q=hget h q) /\ N+1 <= M /\ nx=M+0) (k:=k) (e:=el) (sz:=sz) (x:=xb) (a:=a) (len:=n) (cap:=c) ?_ ?_ hn ?_ ?_ ?_
 ·simp only [↓R0,R1,simprocAttr,-Int.reduceAbs]
 ·simp only [↓R0,R1,simprocAttr,-Int.reduceAbs,Nk]
  exact hb
 ·refine ⟨N+1,.slice none 0 0,?_,.inl ⟨rfl,rfl⟩,fun q hq=>?_,Nat.le_refl _,rfl⟩
  ·simp only [↓R0,R1,simprocAttr,-Int.reduceAbs]
  ·have nb:∀ d,(N+d=q)=False:=fun d=>eq_false (by omega)
   simp only [↓R0,R1,simprocAttr,-Int.reduceAbs,nb]
 ·rintro i hp nx ⟨M,sl,b0,hO,hh,hM,hnx⟩ hi hnn
  rw [hnx]
  clear hnx hnn nx
  have M0:∀ j,(M+j=N+0)=False:=fun j=>eq_false (by omega)
  have M1:∀ j,(N+0=M+j)=False:=fun j=>eq_false (by omega)
  have M2:∀ j,(N=M+j)=False:=fun j=>eq_false (by omega)
  have M3:∀ j,(M+j=N)=False:=fun j=>eq_false (by omega)
  rcases hO with ⟨z0,rfl⟩ | ⟨z0,kk,x,rfl,h3,h4,h5⟩
  ·have i0:i=0:=by
    have:=congrArg List.length z0
    rw [List.length_range] at this;exact this
   subst i0
   simp only [↓R0,R1,simprocAttr,-Int.reduceAbs,b0,M0,M1,M2,M3]
   refine rk_of ⟨M+2,.slice (some ⟨M+1,0,none⟩) 1 1,?_,.inr ⟨by simp,M+1,false,rfl,?_,by omega,by omega⟩,fun q hq=>?_,by omega,rfl⟩
   ·simp only [↓R0,R1,simprocAttr,-Int.reduceAbs,M0]
   ·simp only [↓R0,R1,simprocAttr,-Int.reduceAbs,M0,M1,M2,M3]
    rfl
   ·have nb:∀ d,(M+d=q)=False:=fun d=>eq_false (by omega)
    have nc:(N+0=q)=False:=eq_false (by omega)
    simp only [↓R0,R1,simprocAttr,-Int.reduceAbs,nb,nc]
    exact hh q hq
  ·have lr:(List.range i).length=i:=List.length_range
   rw [lr] at b0
   have v1:∀ d,(M+d=kk)=False:=fun d=>eq_false (by omega)
   have v2:∀ d,(kk=M+d)=False:=fun d=>eq_false (by omega)
   have v3:(kk=N+0)=False:=eq_false (by omega)
   have v4:(N+0=kk)=False:=eq_false (by omega)
   have lI:(intC (List.range i)).length=i:=by unfold intC;rw [List.length_map,lr]
   have aI:intC (List.range i) ++ [.int .i64 (i:Nat)]=intC (List.range (i+1)):=by unfold intC;rw [List.range_succ,List.map_append];rfl
   have nler:(i+1 <= i)=False:=eq_false (by omega)
   have ovr:((i+1) * 8 <= 140737488355328)=True:=eq_true (by omega)
   generalize intC (List.range i)=IC0 at *
   generalize eIC:intC (List.range (i+1))=IC1 at *
   simp only [↓R0,R1,simprocAttr,-Int.reduceAbs,b0,M0,M1,M2,M3,h3,lI,aI,nler,ovr,v1,v2,v3,v4]
   refine rk_of ⟨M+2,.slice (some ⟨M+1,0,none⟩) (i+1) (i+1),?_,.inr ⟨by simp,M+1,false,by rw [List.length_range],?_,by omega,by omega⟩,fun q hq=>?_,by omega,rfl⟩
   ·simp only [↓R0,R1,simprocAttr,-Int.reduceAbs,M0]
   ·rw [eIC]
    simp only [↓R0,R1,simprocAttr,-Int.reduceAbs,M0,M1,M2,M3,v1,v2,v3,v4]
   ·have nb:∀ d,(M+d=q)=False:=fun d=>eq_false (by omega)
    have nq:(kk=q)=False:=eq_false (by omega)
    have nc:(N+0=q)=False:=eq_false (by omega)
    simp only [↓R0,R1,simprocAttr,-Int.reduceAbs,nb,nq,nc]
    exact hh q hq
 ·rintro hp nx ⟨M,sl,b0,hO,hh,hM,hnx⟩ hnn
  rw [hnx]
  clear hnx hnn nx
  have lr:(List.range n).length=n:=List.length_range
  rcases hO with ⟨z0,rfl⟩ | ⟨z0,kk,x,rfl,h3,h4,h5⟩
  ·have:=congrArg List.length z0
   rw [lr] at this
   exact absurd this (by simp;omega)
  rw [lr] at b0
  simp only [↓R0,R1,simprocAttr,-Int.reduceAbs,y_plain,y_seq,y_block,b0,FinL,isEnd,resL,res1]
  refine ⟨fun _=>kk,_,fun i hi=>(by omega:N <= kk),fun i j (hi:i < 1) (hj:j < 1) _=>by omega,rfl,rfl,fun i hi=>⟨x,h3⟩,hh⟩
def spColl:List Value -> Heap -> Option ((Nat -> Value) × Blk)
 | [.func (.func f) ⟨[]⟩ ⟨[.pointer (some ⟨k,0,none⟩)]⟩],h=>spApS [.slice none 0 0,.func (.func f) ⟨[]⟩ ⟨[.pointer (some ⟨k,0,none⟩)]⟩] h
 | _,_=>none
def c29:ICode:=
 (.seq (.reg [qq 2 (.mv (.c (.slice none 0 0)))]) (.seq (.reg [qq 3 (.mv (.t 0)),qq 4 (.call 50 [(.c (.slice none 0 0)),(.t 3)]),qq 2 (.mv (.t 4))]) .ret))
theorem tr29:trFun Tryz.prog 29=some ⟨5,[.t 2],c29⟩:=by kernel_rfl
theorem ok_col:SpecOK Tryz.prog 29 (nwS spColl):=by
 refine nw_run (env_cons ok_apS (env_nil _)) mixed tr29 ?_ ?_
 ·intro args h h' r hle e
  unfold spColl at e ⊢
  split at e
  ·exact spApS_mono hle e
  ·cases e
 intro args vf b h N hG hN
 unfold spColl at hG
 split at hG
 case h_2=>cases hG
 rename_i f k
 have hG0:=hG
 unfold spApS at hG
 simp only at hG
 split at hG
 case h_2=>cases hG
 rename_i el sz xb a n c hb
 split at hG
 case isFalse=>cases hG
 rename_i hs
 cases hG
 refine ⟨rfl,intC_base _,vr1_sl 0 n n,by simp,?_⟩
 simp only [c29,G0,Nat.reduceAdd]
 simp only [↓R0,R1,simprocAttr,-Int.reduceAbs,nwS,hG0,FinN,isEnd,resL,res1]
 refine ⟨_,N,false,rfl,rfl,Nat.le_refl _,?_,fun q hq=>?_⟩
 ·exact if_pos rfl
 ·rw [if_neg (by omega)]
def eqOf (c:List Rat) (r:Rat):EqR:=⟨c.map RQ.of,RQ.of r,0⟩
def eqV (k n:Nat) (r:Rat):List Value:=.slice (some ⟨k,0,none⟩) n n :: (eqOf [] r).tl
theorem eqV_len (k n:Nat) (r:Rat):(eqV k n r).length=5:=rfl
theorem eqV_ok (k n:Nat) (r:Rat):(eqV k n r).all okCell=true:=rfl
theorem eqV_tk (k n:Nat) (r:Rat):(eqV k n r).take 5=eqV k n r:=rfl
theorem eqV_s (k n:Nat) (r:Rat):setR [.slice none 0 0,.bool false,.string ⟨⟨[]⟩⟩,.string ⟨⟨[]⟩⟩,.int .i64 0] 0 (eqV k n r)=eqV k n r:=rfl
theorem ratC_rqs (l:List Rat):ratC l=rqs (l.map RQ.of):=by
 unfold ratC rqs
 rw [List.flatMap_map]
 rfl
theorem ratC_list {h:Heap} {k e s:Nat} {x:Bool} {c:List Rat} (hb:hget h k=some ⟨e,s,x,ratC c⟩) (hc:c ≠ []):listAt 3 dec1 h (.slice (some ⟨k,0,none⟩) c.length c.length)=some (c.map RQ.of):=by
 have hl:=ratC_len c
 obtain ⟨d,hd⟩:∃ d,c.length=d+1:=⟨c.length - 1,by have:=List.length_pos_iff.2 hc;omega⟩
 unfold listAt
 have la:lay 3 h (.slice (some ⟨k,0,none⟩) c.length c.length)=some (ratC c):=by
  unfold lay
  rw [hd]
  simp only [hb]
  rw [if_pos ⟨by omega,by omega⟩,<- hd,List.drop_zero,List.take_of_length_le (by omega)]
 rw [la]
 show many 3 dec1 c.length _=_
 refine many_some (by rw [List.length_map]) fun i q hq=>?_
 rw [ratC_rqs,rqs_at _ _ _ hq];rfl
theorem decEq_V {h:Heap} {k e s:Nat} {x:Bool} {c:List Rat} {r:Rat} (hb:hget h k=some ⟨e,s,x,ratC c⟩) (hc:c ≠ []):decEq h (eqV k c.length r)=some (eqOf c r):=decEq_of (e:=eqOf c r) (ratC_list hb hc)
theorem eqM_of (n:Nat) (l:List (List Rat × Rat)) (i j:Nat):eqM n (l.map fun x=>eqOf x.1 x.2) i j=if i < l.length then (if j < n then ((((l[i]?).getD ([],0)).1)[j]?).getD 0 else ((l[i]?).getD ([],0)).2) else 0:=by
 unfold eqM eqAt
 rw [List.getElem?_map]
 have z:rq0.v=0:=by decide
 by_cases hi:i < l.length
 ·rw [if_pos hi,List.getElem?_eq_getElem hi]
  show ((eqOf _ _).at n j).v=_
  unfold EqR.at eqOf
  simp only [Option.getD_some]
  split
  ·rw [List.getElem?_map]
   cases (l[i].1)[j]? with
   | none=>exact z
   | some q=>exact RQ.of_v q
  ·exact RQ.of_v _
 ·rw [if_neg hi,List.getElem?_eq_none (by omega)]
  show (eqD.at n j).v=0
  unfold EqR.at eqD
  split <;> exact z
def ccM (n:Nat) (l:List (List Rat × Rat)):Mat:=fun i j=>if i < l.length then (if j < n then ((((l[i]?).getD ([],0)).1)[j]?).getD 0 else ((l[i]?).getD ([],0)).2) else 0
theorem eqM_cc (n:Nat) (l:List (List Rat × Rat)):eqM n (l.map fun x=>eqOf x.1 x.2)=ccM n l:=by
 funext i j
 exact eqM_of n l i j
theorem solve_of {h:Heap} {n:Int} {l:List EqR} {sl:Value} (hx:decRows h sl=some l) (hs:SysOK n l):spSolve [.int .i64 n,sl] h=some (solNL (solveL n l)):=by
 unfold spSolve
 simp only [hx]
 exact if_pos hs
def smallQ (q:RQ):Prop:=q.n.length <= 4 /\ q.d.length <= 4
instance {q:RQ}:Decidable (smallQ q):=by unfold smallQ;infer_instance
def smallE (e:EqR):Prop:=e.coef.length <= 10 /\ ∀ q ∈ e.coef ++ [e.rhs],smallQ q
instance {e:EqR}:Decidable (smallE e):=by unfold smallE;infer_instance
def smallS (n:Int) (l:List EqR):Prop:=¬ (8 < n /\ n <= 100) /\ ¬ (10 < l.length /\ l.length <= 100) /\ ∀ e ∈ l,smallE e
instance {n:Int} {l:List EqR}:Decidable (smallS n l):=by unfold smallS;infer_instance
theorem smallS.sys {n:Int} {l:List EqR} (h:smallS n l):SysOK n l:=fun c=>by
 unfold chkL at c
 split at c
 ·cases c
 rename_i h1
 split at c
 case isFalse=>cases c
 rename_i h2
 obtain ⟨a,b,d⟩:=h
 refine ⟨by omega,by omega,by omega,fun e he=>by have:=h2 e he;omega,fun e he=>?_⟩
 obtain ⟨_,h4⟩:=d e he
 have f:∀ q,smallQ q -> q.ok 399:=fun q hq=>⟨by have:=hq.1;omega,by have:=hq.2;omega⟩
 exact ⟨fun q hq=>f q (h4 q (List.mem_append_left _ hq)),f _ (h4 _ (List.mem_append_right _ (List.mem_singleton.2 rfl)))⟩
def rqAt (l:List RQ) (i:Nat):RQ:=(l[i]?).getD rq0
def qsV (l:List RQ) (i:Nat):Rat:=(rqAt l i).v
theorem rqAt_some {l:List RQ} {i:Nat} (h:i < l.length):l[i]?=some (rqAt l i):=by unfold rqAt;rw [List.getElem?_eq_getElem h];rfl
theorem rqAt_mem {l:List RQ} {i:Nat} (h:i < l.length):rqAt l i ∈ l:=List.mem_of_getElem? (rqAt_some h)
theorem rq_at {h:Heap} {a:Option Addr} {n c:Nat} {l:List RQ} {i:Nat} (e:listAt 3 dec1 h (.slice a n c)=some l) (hi:i < n) :
  ∃ k off blk,a=some ⟨k,off,none⟩ /\ hget h k=some blk /\ off+i * 3+3 <= blk.cells.length /\ (blk.cells.drop (off+i * 3)).take 3=(rqAt l i).cells:=by
 obtain ⟨a',c',ev⟩:=listAt_sl e
 injection ev with _ x _
 obtain ⟨k,off,blk,ea,hb,_,_,hat⟩:=listAt_get e (by omega)
 obtain ⟨h1,h2⟩:=hat i _ (rqAt_some (by omega))
 exact ⟨k,off,blk,ea,hb,h1,dec1_eq h2⟩
def holdsE (e:EqR) (vs:List RQ):Bool:=decide (lin e.coef.length (qsV e.coef) (qsV vs)=e.rhs.v)
def HoldOK (e:EqR) (vs:List RQ):Prop:=e.coef.length <= vs.length /\ e.coef.length <= 10 /\ (∀ q ∈ e.coef,q.ok 1000) /\ e.rhs.ok 1000 /\ ∀ i,i < e.coef.length -> (rqAt vs i).ok 200000000
instance {e:EqR} {vs:List RQ}:Decidable (HoldOK e vs):=by unfold HoldOK;infer_instance
theorem lin_step (k:Nat) (a b:Nat -> Rat):lin k a b+a k * b k=lin (k+1) a b:=rfl
def ZL (n:Nat) (l:List EqR):Row -> Prop:=nullM (n+1) l.length (eqM n l)
theorem chk0 {n:Int} {l:List EqR} (c:chkL n l=0):0 <= n /\ n <= 100 /\ l.length <= 100 /\ ∀ e ∈ l,(e.coef.length:Int)=n:=by
 unfold chkL at c
 split at c
 ·cases c
 rename_i h
 split at c
 ·exact ⟨by omega,by omega,by omega,by assumption⟩
 ·cases c
theorem chk0_nat {n:Nat} {l:List EqR} (c:chkL n l=0):∀ e ∈ l,e.coef.length=n:=fun e he=>by have:=(chk0 c).2.2.2 e he;omega
theorem chk0_of {n:Nat} {l:List EqR} (h1:n <= 100) (h2:l.length <= 100) (h3:∀ e ∈ l,e.coef.length=n):chkL n l=0:=by
 unfold chkL
 rw [if_neg (by omega),if_pos (fun e he=>by rw [h3 e he])]
theorem eqM_lin {n:Nat} {l:List EqR} {i:Nat} (hl:(eqAt l i).coef.length=n) (X:Row):lin (n+1) (eqM n l i) X=lin n (qsV (eqAt l i).coef) X+(eqAt l i).rhs.v * X n:=by
 unfold lin
 rw [sm]
 have e1:eqM n l i n=(eqAt l i).rhs.v:=by unfold eqM EqR.at;rw [if_neg (by omega)]
 rw [e1,sm_congr (g:=fun j=>qsV (eqAt l i).coef j * X j) fun j hj=>by
  have:eqM n l i j=qsV (eqAt l i).coef j:=by unfold eqM EqR.at;rw [if_pos hj];rfl
  rw [this]]
theorem ZL_iff {n:Nat} {l:List EqR} (hl:∀ e ∈ l,e.coef.length=n) (X:Row):ZL n l X ↔ ∀ e ∈ l,lin n (qsV e.coef) X+e.rhs.v * X n=0:=by
 constructor
 ·intro h e he
  obtain ⟨i,hi⟩:=List.getElem?_of_mem he
  have hlt:=(List.getElem?_eq_some_iff.1 hi).1
  rw [eqAt_some hlt] at hi
  cases hi
  rw [<- eqM_lin (hl _ he)]
  exact h i hlt
 ·intro h i hi
  rw [eqM_lin (hl _ (eqAt_mem hi))]
  exact h _ (eqAt_mem hi)
theorem solL_out {n:Nat} {l:List EqR} (c:chkL n l=0):OutP n (ZL n l) 14 17 (solveL n l).1 (solveL n l).2:=by
 unfold solveL lsOf
 rw [if_pos c,Int.toNat_natCast]
 exact solveK_out 14 17 n l.length (eqM n l)
theorem conL {n:Nat} {l:List EqR}:ConP n (ZL n l) ↔ ¬ clashM n l.length (lsOf n l):=(red_sys n l.length (eqM n l)).con
theorem detL {n:Nat} {l:List EqR} {k:Nat} (hk:k < n):detK n (lsOf n l) k ↔ DetP n (ZL n l) k:=detK_iff hk
theorem rankL_full {n:Nat} {l:List EqR} (c:chkL n l=0) (h:∀ k,k < n -> DetP n (ZL n l) k):rankL n l=n:=by
 unfold rankL
 rw [if_pos c,Int.toNat_natCast]
 exact (red_sys n l.length (eqM n l)).full.2.2 h
theorem rankL_congr {n:Nat} {l l':List EqR} (c:chkL n l=0) (c':chkL n l'=0) (H:∀ k,k < n -> (HeadP n (ZL n l) k ↔ HeadP n (ZL n l') k)):rankL n l=rankL n l':=by
 unfold rankL
 rw [if_pos c,if_pos c',Int.toNat_natCast]
 exact rank_eq (red_sys n l.length (eqM n l)) (red_sys n l'.length (eqM n l')) H
def vq (l:List Rat):List RQ:=l.map RQ.of
theorem solve_call {h:Heap} {n:Int} {b:Nat} {l:List EqR} {sl:Value} (hx:decRows h sl=some l) (hs:SysOK n l) :
  ∃ a D mm,nwL spSolve [.int .i64 n,sl] h b=some (.tuple ⟨[.slice a (solveL n l).2.length (solveL n l).2.length,.int .i64 (solveL n l).1]⟩,D,mm) /\ (∀ q,q < b -> hget (D ++ h) q=hget h q) /\
   ∀ hp,ExtL (b+mm) (D ++ h) hp -> listAt 3 dec1 hp (.slice a (solveL n l).2.length (solveL n l).2.length)=some (vq (solveL n l).2):=by
 have e:nwL spSolve [.int .i64 n,sl] h b=some ((solNL (solveL n l)).val (b+·),newH (solNL (solveL n l)) (b+·) (solNL (solveL n l)).m,(solNL (solveL n l)).m):=by
  unfold nwL
  rw [solve_of hx hs];rfl
 rw [e]
 generalize solveL n l=r at *
 unfold solNL
 by_cases z:r.2=[]
 ·rw [if_pos z]
  refine ⟨none,[],0,?_,fun _ _=>rfl,fun hp _=>?_⟩
  ·rw [z];rfl
  ·rw [z];rfl
 ·rw [if_neg z]
  refine ⟨some ⟨b+0,0,none⟩,_,1,rfl,fun q hq=>?_,fun hp he=>?_⟩
  ·have:(b+0=q)=False:=eq_false (by omega)
   simp only [newH,List.cons_append,List.nil_append,hget,this,if_false]
  ·have g:=he (b+0) (by omega)
   rw [show hget (newH ⟨1,fun σ=>Value.tuple ⟨[.slice (some ⟨σ 0,0,none⟩) r.2.length r.2.length,.int .i64 r.1]⟩,fun _=>38,fun _=>3,fun _ _=>ratC r.2⟩ (b+·) 1 ++ h) (b+0)=some ⟨38,3,false,ratC r.2⟩ from if_pos rfl] at g
   exact ratC_list g z
def togL (n:Int) (l:List EqR):Bool:=decide ((solveL n l).1 ≠ 14)
def spTog:List Value -> Heap -> Option Value
 | [.int .i64 n,sl],h=>match decRows h sl with
  | some l=>if SysOK n l then some (.bool (togL n l)) else none
  | none=>none
 | _,_=>none
theorem spTog_mono {args:List Value} {h h':Heap} {r:Value} (hl:hle h h') (e:spTog args h=some r):spTog args h'=some r:=by
 unfold spTog at e ⊢
 split at e
 ·split at e
  ·rename_i l hb
   simp only [decRows_mono hl hb];exact e
  ·cases e
 ·cases e
theorem tog_of {h:Heap} {n:Int} {l:List EqR} {sl:Value} (hx:decRows h sl=some l) (hs:SysOK n l):spTog [.int .i64 n,sl] h=some (.bool (togL n l)):=by
 unfold spTog
 simp only [hx]
 exact if_pos hs
def c28:ICode:=
 (.seq (.reg [qq 4 (.mv (.c (.bool false)))]) (.seq (.reg [qq 8 (.mv (.t 0)),qq 9 (.mv (.t 1)),qq 10 (.call 16 [(.t 8),(.t 9)]),qq 7 (.mv (.t 10)),qq 11 (.ext (.t 7) 0),qq 12 (.ext (.t 7) 1),qq 5 (.mv (.t 11)),qq 6 (.mv (.t 12))]) (.seq (.reg [qq 13 (.mv (.t 6)),qq 14 (.bin .neq (.t 13) (ci 14)),qq 4 (.mv (.t 14))]) .ret)))
theorem tr28:trFun Tryz.prog 28=some ⟨15,[.t 4],c28⟩:=by kernel_rfl
set_option maxHeartbeats 2000000 in
theorem ok_tog:SpecOK Tryz.prog 28 (rdS spTog):=by
 refine rd_run (env_cons ok_solve (env_nil _)) mixed tr28 (fun _ _ _ _=>spTog_mono) ?_
 intro args v h N hG hN
 unfold spTog at hG
 split at hG
 case h_2=>cases hG
 rename_i n sl
 split at hG
 case h_2=>cases hG
 rename_i l hx
 split at hG
 case isFalse=>cases hG
 rename_i hs
 cases hG
 refine ⟨by rfl,by simp,?_⟩
 obtain ⟨a9,D,mm,kc,gq,hV⟩:=solve_call (b:=N+0) hx hs
 generalize eHP:D ++ h=HP at *
 have ac:∀ (d:Nat) (tm:List (Nat × Value)) (V:Value) (K:St -> Prop),@aft (some d) (some (V,D,mm)) ⟨(⟨tm,h,N+0⟩,K)⟩=K ⟨(d,V) :: tm,HP,N+(0+mm)⟩:=fun _ _ _ _=>by rw [<- eHP];exact a_newL
 have dn:∀ a b:Int,decide (a ≠ b)=!decide (a=b):=fun a b=>by by_cases h:a=b <;> simp [h]
 have ft:togL n l=!decide ((solveL n l).1=14):=dn _ _
 simp only [c28,G0,Nat.reduceAdd]
 simp only [↓R0,R1,simprocAttr,-Int.reduceAbs,kc,ac,Fin,isEnd,resL,res1]
 exact ⟨_,rfl,rfl,fun q hq=>gq q (by omega)⟩
def selfOK (h:Heap) (v:Value):Bool:=isBase v || slOK h v
theorem selfOK_vr {h:Heap} {v:Value} {β:Emb} (e:selfOK h v=true) (hβ:∀ k,hget h k ≠ none -> β k=some ⟨k,0,[]⟩):VR β v v:=by
 unfold selfOK at e
 rw [Bool.or_eq_true] at e
 rcases e with e | e
 ·exact .base _ e
 ·exact slOK_vr e hβ
theorem selfOK_cell {h:Heap} {v:Value} (e:selfOK h v=true):okCell v=true:=by
 unfold selfOK at e
 rw [Bool.or_eq_true] at e
 rcases e with e | e
 ·cases v <;> simp_all [isBase,okCell]
 ·unfold slOK at e
  split at e
  ·rfl
  ·cases e
theorem selfOK_mono {h h':Heap} {v:Value} (hl:hle h h') (e:selfOK h v=true):selfOK h' v=true:=by
 unfold selfOK at e ⊢
 rw [Bool.or_eq_true] at e ⊢
 exact e.imp id (slOK_mono hl)
theorem selfsOK_vrs {h:Heap} {β:Emb} (hβ:∀ k,hget h k ≠ none -> β k=some ⟨k,0,[]⟩):∀ {cs:List Value},cs.all (selfOK h)=true -> VRs β cs cs
 | [],_ => .nil
 | c :: cs,e=>by
  rw [List.all_cons,Bool.and_eq_true] at e
  exact .cons _ _ _ _ (selfOK_vr e.1 hβ) (selfsOK_vrs hβ e.2)
theorem selfsOK_cells {h:Heap} {cs:List Value} (e:cs.all (selfOK h)=true):cs.all okCell=true:=by
 rw [List.all_eq_true] at e ⊢
 exact fun v hv=>selfOK_cell (e v hv)
theorem selfsOK_mono {h h':Heap} (hl:hle h h') {cs:List Value} (e:cs.all (selfOK h)=true):cs.all (selfOK h')=true:=by
 rw [List.all_eq_true] at e ⊢
 exact fun v hv=>selfOK_mono hl (e v hv)
def eqC (cs:List Value) (p:Int):List Value:=(cs.drop (p.toNat * 5)).take 5
def thoC (cs:List Value) (ps:List Int):List Value:=ps.flatMap (eqC cs)
theorem eqC_all {cs:List Value} {p:Int} {f:Value -> Bool} (h:cs.all f=true):(eqC cs p).all f=true:=by
 rw [List.all_eq_true] at h ⊢
 exact fun v hv=>h v (List.mem_of_mem_drop (List.mem_of_mem_take hv))
theorem thoC_all {cs:List Value} {ps:List Int} {f:Value -> Bool} (h:cs.all f=true):(thoC cs ps).all f=true:=by
 rw [List.all_eq_true]
 intro v hv
 unfold thoC at hv
 obtain ⟨p,_,hv⟩:=List.mem_flatMap.1 hv
 have:=eqC_all (p:=p) h
 rw [List.all_eq_true] at this
 exact this v hv
def inR (cs:List Value) (p:Int):Bool:=decide (0 <= p) && decide (p.toNat * 5+5 <= cs.length)
theorem eqC_len {cs:List Value} {p:Int} (h:inR cs p=true):(eqC cs p).length=5:=by
 unfold inR at h
 rw [Bool.and_eq_true,decide_eq_true_eq,decide_eq_true_eq] at h
 unfold eqC
 rw [List.length_take,List.length_drop];omega
theorem thoC_len {cs:List Value}:∀ {ps:List Int},ps.all (inR cs)=true -> (thoC cs ps).length=ps.length * 5
 | [],_=>rfl
 | p :: ps,h=>by
  rw [List.all_cons,Bool.and_eq_true] at h
  have:=thoC_len h.2
  unfold thoC at this ⊢
  rw [List.flatMap_cons,List.length_append,eqC_len h.1,this,List.length_cons];omega
def thNL (cs:List Value) (ps:List Int):NewL:=
 if ps=[] then ⟨0,fun _ => .slice none 0 0,fun _=>0,fun _=>0,fun _ _=>[]⟩
 else ⟨1,fun σ => .slice (some ⟨σ 0,0,none⟩) ps.length ps.length,fun _=>40,fun _=>5,fun _ _=>thoC cs ps⟩
def spThose:List Value -> Heap -> Option NewL
 | [sl,pl],h=>match lay 5 h sl,listAt 1 decN h pl with
  | some cs,some ps=>if cs.all (selfOK h)=true /\ ps.all (inR cs)=true /\ ps.length <= 1000 then some (thNL cs ps) else none
  | _,_=>none
 | _,_=>none
theorem spThose_mono {args:List Value} {h h':Heap} {r:NewL} (hl:hle h h') (e:spThose args h=some r):spThose args h'=some r:=by
 unfold spThose at e ⊢
 split at e
 ·split at e
  ·rename_i cs ps h1 h2
   split at e
   ·rename_i hc
    simp only [lay_mono hl h1,listAt_mono hl (fun _ _ e=>e) h2]
    rw [if_pos ⟨selfsOK_mono hl hc.1,hc.2⟩];exact e
   ·cases e
  ·cases e
 ·cases e
def OutE (hp:Heap) (lo hi:Nat) (sl:Value) (m:Nat) (C:List Value):Prop:=
 (m=0 /\ sl = .slice none 0 0) \/ (0 < m /\ ∃ kk x,sl = .slice (some ⟨kk,0,none⟩) m m /\ hget hp kk=some ⟨40,5,x,C⟩ /\ lo <= kk /\ kk < hi)
def c32:ICode:=
 (.seq (.reg [qq 4 (.mv (.c (.slice none 0 0)))]) (.seq (.reg [qq 5 (.mv (.c (.slice none 0 0)))]) (.seq (.seq (.reg [qq 8 (.mv (.t 1)),qq 9 (.lensl (.t 8)),qq 10 (.mv (ci 0))]) (.block 0 (.loop (.seq (.reg [qq 11 (.bin .lss (.t 10) (.t 9))]) (.seq (.cond (.t 11) .skip (.exit 0)) (.seq (.block 1 (.seq (.reg [qq 12 (.ixsl 1 (.t 8) (.t 10)),qq 13 (.load false 1 (.t 12)),qq 7 (.mv (.t 13))]) (.reg [qq 14 (.mv (.t 5)),qq 15 (.mv (.t 0)),qq 16 (.mv (.t 7)),qq 17 (.ixsl 5 (.t 15) (.t 16)),qq 18 (.load true 5 (.t 17)),qq 19 (.bslice 40 5 1 [(.slice none 0 0),(.bool false),e0,e0,(.int .i64 0)] [(0,5,(.t 18))]),qq 20 (.app 40 5 72 (.t 14) (.t 19)),qq 5 (.mv (.t 20))]))) (.reg [qq 21 (.bin .add (.t 10) (ci 1)),qq 10 (.mv (.t 21))]))))))) (.seq (.reg [qq 22 (.mv (.t 5)),qq 4 (.mv (.t 22))]) .ret))))
theorem tr32:trFun Tryz.prog 32=some ⟨23,[.t 4],c32⟩:=by kernel_rfl
set_option maxHeartbeats 8000000 in
theorem ok_those:SpecOK Tryz.prog 32 (nwL spThose):=by
 refine newL_run (env_nil _) mixed tr32 (fun _ _ _ _=>spThose_mono) ?_
 intro args h N r hG hN
 unfold spThose at hG
 split at hG
 case h_2=>cases hG
 rename_i sl pl
 split at hG
 case h_2=>cases hG
 rename_i cs ps h1 h2
 split at hG
 case isFalse=>cases hG
 rename_i hs
 obtain ⟨hself,hin,hps⟩:=hs
 cases hG
 obtain ⟨a',c',rfl⟩:=listAt_sl h2
 refine ⟨?_,by simp,?_⟩
 ·unfold thNL
  split
  ·exact ⟨fun β σ σ' _ _ => .base _ rfl,fun β σ σ' _ _ i hi=>absurd hi (Nat.not_lt_zero i)⟩
  ·exact ⟨fun β σ σ' b1 _=>VR.sl (σ 0) 0 _ _ ⟨σ' 0,0,[]⟩ (b1 0 Nat.one_pos),fun β σ σ' _ b2 i hi=>selfsOK_vrs b2 (thoC_all hself)⟩
 simp only [c32,G0,Nat.reduceAdd]
 simp only [↓R0,R1,simprocAttr,-Int.reduceAbs]
 refine lp_parts (fun q tm hp nx=>∃ (i M:Nat) (o:Value),q+i=ps.length /\ tmget tm 0=sl /\ tmget tm 8 = .slice a' ps.length c' /\ tmget tm 9 = .int .i64 ps.length /\ tmget tm 10 = .int .i64 i /\ tmget tm 5=o /\ OutE hp N M o i (thoC cs (ps.take i)) /\ (∀ q,q < N -> hget hp q=hget h q) /\ N <= M /\ nx=M+0) ?_ ps.length
  ⟨0,N,.slice none 0 0,by omega,?_,?_,?_,?_,?_,.inl ⟨rfl,rfl⟩,?_,Nat.le_refl _,rfl⟩
 rotate_left
 all_goals first | (simp only [↓R0,R1,simprocAttr,-Int.reduceAbs];done) | (simp only [↓R0,R1,simprocAttr,-Int.reduceAbs];rfl) | skip
 ·exact fun q _=>rfl
 rintro q tm hp nx ⟨i,M,o,hq,t0,t8,t9,t10,t5,hO,hh,hM,hnx⟩
 rw [hnx]
 clear hnx nx
 have wi:IntKind.i64.wrap ((i:Int)+1)=((i+1:Nat):Int):=by rw [i64_in _ (by omega)];omega
 by_cases ci:i < ps.length
 case neg=>
  have ei:i=ps.length:=by omega
  subst ei
  have ci':((ps.length:Int) < (ps.length:Int))=False:=eq_false (by omega)
  rw [List.take_length] at hO
  unfold thNL
  rcases hO with ⟨z,rfl⟩ | ⟨z,kk,x,rfl,h3,h4,h5⟩
  ·have z0:ps=[]:=List.eq_nil_of_length_eq_zero z
   rw [if_pos z0]
   simp only [↓R0,R1,simprocAttr,-Int.reduceAbs,t0,t8,t9,t10,t5,ci',FinL,isEnd,resL,res1]
   refine ⟨fun i=>i,_,fun i hi=>absurd hi (Nat.not_lt_zero i),fun i j hi=>absurd hi (Nat.not_lt_zero i),rfl,rfl,fun i hi=>absurd hi (Nat.not_lt_zero i),hh⟩
  ·have z0:¬ ps=[]:=fun e=>by rw [e] at z;exact absurd z (Nat.not_lt_zero _)
   rw [if_neg z0]
   simp only [↓R0,R1,simprocAttr,-Int.reduceAbs,t0,t8,t9,t10,t5,ci',FinL,isEnd,resL,res1]
   refine ⟨fun _=>kk,_,fun i hi=>(by omega:N <= kk),fun i j (hi:i < 1) (hj:j < 1) _=>by omega,rfl,rfl,fun i hi=>⟨x,h3⟩,hh⟩
 have ci':((i:Int) < (ps.length:Int))=True:=eq_true (by omega)
 have HL:hle h hp:=fun q b e=>by rw [hh q (hN _ _ e)];exact e
 obtain ⟨p,pt⟩:∃ p,ps[i]?=some p:=⟨_,List.getElem?_eq_getElem ci⟩
 obtain ⟨kp,op,bp,ea,hbp,_,_,hat⟩:=listAt_get h2 (by omega)
 obtain ⟨q1,q2⟩:=hat i p pt
 have q2:=cell1_of (decN_eq q2)
 rw [Nat.mul_one] at q2
 subst ea
 have hbb:=HL _ _ hbp
 have inp:inR cs p=true:=by
  rw [List.all_eq_true] at hin
  exact hin p (List.mem_of_getElem? pt)
 have len5:=eqC_len inp
 have inp0:=inp
 unfold inR at inp0
 rw [Bool.and_eq_true,decide_eq_true_eq,decide_eq_true_eq] at inp0
 obtain ⟨p0,p1⟩:=inp0
 obtain ⟨m,rfl⟩:=Int.eq_ofNat_of_zero_le p0
 rw [Int.toNat_natCast] at p1
 obtain ⟨ar,lr,cr,rfl,hlr⟩:=lay_len h1
 obtain ⟨kr,orr,br,ea,hbr,hlc,hle,ecs⟩:=lay_pos h1 (by omega)
 subst ea
 have hbr':=HL _ _ hbr
 have nkr:=hN _ _ hbr
 have nkp:=hN _ _ hbp
 have ml:m < lr:=by omega
 have ml':((m:Int) < (lr:Int))=True:=eq_true (by omega)
 have m5:orr+m * 5+5 <= br.cells.length:=by omega
 have ec:(br.cells.drop (orr+m * 5)).take 5=eqC cs m:=by
  unfold eqC
  rw [Int.toNat_natCast,ecs,List.drop_take,List.take_take,Nat.min_eq_left (by omega),List.drop_drop]
 have fok:(eqC cs m).all okCell=true:=eqC_all (selfsOK_cells hself)
 have ths:thoC cs (ps.take (i+1))=thoC cs (ps.take i) ++ eqC cs m:=by
  unfold thoC
  rw [List.take_add_one,pt,List.flatMap_append]
  simp
 have thl:(thoC cs (ps.take i)).length=i * 5:=by
  rw [thoC_len (by rw [List.all_eq_true] at hin ⊢;exact fun x hx=>hin x (List.mem_of_mem_take hx)),List.length_take,Nat.min_eq_left (by omega)]
 generalize eqC cs m=C5 at *
 generalize thoC cs (ps.take i)=CT at *
 generalize eT1:thoC cs (ps.take (i+1))=CT1 at *
 have tk5:C5.take 5=C5:=List.take_of_length_le (by omega)
 have st5:setR [.slice none 0 0,.bool false,.string ⟨⟨[]⟩⟩,.string ⟨⟨[]⟩⟩,.int .i64 0] 0 C5=C5:=by
  match C5,len5 with
  | [x1,x2,x3,x4,x5],_=>rfl
 have M0:∀ j,(M+j=kr)=False:=fun j=>eq_false (by omega)
 have M1:∀ j,(M+j=kp)=False:=fun j=>eq_false (by omega)
 rcases hO with ⟨z0,rfl⟩ | ⟨z0,kk,x,rfl,h3,h4,h5⟩
 ·have hCT:CT=[]:=List.eq_nil_of_length_eq_zero (by omega)
  subst hCT
  rw [List.nil_append] at ths
  simp only [↓R0,R1,simprocAttr,-Int.reduceAbs,t0,t8,t9,t10,t5,ci,ci',hbb,q1,q2,hbr',ml,ml',m5,ec,len5,fok,st5,tk5,setR_length,wi,M0,M1,vcells,fillI]
  refine ⟨q - 1,by omega,i+1,M+2,.slice (some ⟨M+1,0,none⟩) 1 1,by omega,rfl,rfl,.inr ⟨by omega,M+1,false,by rw [z0],?_,by omega,by omega⟩,fun q hq=>?_,by omega,rfl⟩
  ·rw [eT1,ths]
   simp only [↓R0,R1,simprocAttr,-Int.reduceAbs]
  ·have nb:∀ d,(M+d=q)=False:=fun d=>eq_false (by omega)
   simp only [↓R0,R1,simprocAttr,-Int.reduceAbs,nb]
   exact hh q hq
 ·have v1:∀ d,(M+d=kk)=False:=fun d=>eq_false (by omega)
  have v2:∀ d,(kk=M+d)=False:=fun d=>eq_false (by omega)
  have nler:(i+1 <= i)=False:=eq_false (by omega)
  have ovr:((i+1) * 72 <= 140737488355328)=True:=eq_true (by omega)
  simp only [↓R0,R1,simprocAttr,-Int.reduceAbs,t0,t8,t9,t10,t5,ci,ci',hbb,q1,q2,hbr',ml,ml',m5,ec,len5,fok,st5,tk5,setR_length,wi,M0,M1,h3,thl,nler,ovr,v1,v2,vcells,fillI]
  refine ⟨q - 1,by omega,i+1,M+2,.slice (some ⟨M+1,0,none⟩) (i+1) (i+1),by omega,rfl,rfl,.inr ⟨by omega,M+1,false,rfl,?_,by omega,by omega⟩,fun q hq=>?_,by omega,rfl⟩
  ·rw [eT1,ths]
   simp only [↓R0,R1,simprocAttr,-Int.reduceAbs,v1,v2]
  ·have nb:∀ d,(M+d=q)=False:=fun d=>eq_false (by omega)
   have nq:(kk=q)=False:=eq_false (by omega)
   simp only [↓R0,R1,simprocAttr,-Int.reduceAbs,nb,nq]
   exact hh q hq
def selL (l:List EqR) (ps:List Int):List EqR:=ps.map fun p=>eqAt l p.toNat
theorem thoC_at {cs:List Value}:∀ {ps:List Int} {i:Nat} {p:Int},ps.all (inR cs)=true -> ps[i]?=some p -> ((thoC cs ps).drop (i * 5)).take 5=eqC cs p
 | [],i,p,_,e=>by simp at e
 | q :: ps,i,p,h,e=>by
  rw [List.all_cons,Bool.and_eq_true] at h
  have l5:=eqC_len h.1
  show ((eqC cs q ++ thoC cs ps).drop (i * 5)).take 5=_
  cases i with
  | zero=>
   simp only [List.getElem?_cons_zero,Option.some.injEq] at e
   subst e
   rw [Nat.zero_mul,List.drop_zero,List.take_append_of_le_length (by omega),List.take_of_length_le (by omega)]
  | succ i=>
   simp only [List.getElem?_cons_succ] at e
   rw [Nat.succ_mul,List.drop_append,List.drop_of_length_le (by omega),l5,List.nil_append,Nat.add_sub_cancel]
   exact thoC_at h.2 e
structure RowsS (h:Heap) (sl:Value) (l:List EqR) (cs:List Value):Prop where
 lay:lay 5 h sl=some cs
 rows:decRows h sl=some l
 self:cs.all (selfOK h)=true
theorem RowsS.mono {h h':Heap} {sl:Value} {l:List EqR} {cs:List Value} (r:RowsS h sl l cs) (hl:hle h h'):RowsS h' sl l cs:=
 ⟨lay_mono hl r.lay,decRows_mono hl r.rows,selfsOK_mono hl r.self⟩
theorem RowsS.len {h:Heap} {sl:Value} {l:List EqR} {cs:List Value} (r:RowsS h sl l cs):cs.length=l.length * 5 /\ ∃ a c,sl = .slice a l.length c:=by
 obtain ⟨a,c,e⟩:=listAt_sl r.rows
 obtain ⟨a',l',c',e',h2⟩:=lay_len r.lay
 rw [e] at e'
 cases e'
 exact ⟨h2,a,c,e⟩
theorem RowsS.eq {h:Heap} {sl:Value} {l:List EqR} {cs:List Value} (r:RowsS h sl l cs) {p:Int} (hp:inR cs p=true):decEq h (eqC cs p)=some (eqAt l p.toNat):=by
 have e:=r.rows
 unfold decRows listAt at e
 rw [r.lay,Option.bind_some] at e
 have hlen:=r.len.1
 unfold inR at hp
 rw [Bool.and_eq_true,decide_eq_true_eq,decide_eq_true_eq] at hp
 exact (many_get e).2 _ _ (eqAt_some (by omega))
theorem RowsS.inR {h:Heap} {sl:Value} {l:List EqR} {cs:List Value} (r:RowsS h sl l cs) {p:Nat} (hp:p < l.length):inR cs p=true:=by
 have hlen:=r.len.1
 unfold Go.Eng.inR
 rw [Bool.and_eq_true,decide_eq_true_eq,decide_eq_true_eq,Int.toNat_natCast]
 omega
theorem RowsS.those {h h':Heap} {sl:Value} {l:List EqR} {cs:List Value} (r:RowsS h sl l cs) {ps:List Int} (hin:ps.all (Go.Eng.inR cs)=true) (hl:hle h h') {k el sz c:Nat} {x:Bool} (hc:ps.length <= c) (hk:hget h' k=some ⟨el,sz,x,thoC cs ps⟩) :
  RowsS h' (.slice (some ⟨k,0,none⟩) ps.length c) (selL l ps) (thoC cs ps):=by
 have hlen:=thoC_len hin
 have la:Go.Eng.lay 5 h' (.slice (some ⟨k,0,none⟩) ps.length c)=some (thoC cs ps):=by
  unfold Go.Eng.lay
  cases e:ps.length with
  | zero=>
   rw [e] at hlen hc
   simp only [hk]
   rw [if_pos ⟨hc,by omega⟩,List.drop_zero,List.take_of_length_le (by omega)]
  | succ n=>
   rw [e] at hlen hc
   simp only [hk]
   rw [if_pos ⟨hc,by omega⟩,List.drop_zero,List.take_of_length_le (by omega)]
 refine ⟨la,?_,selfsOK_mono hl (thoC_all r.self)⟩
 unfold decRows listAt
 rw [la,Option.bind_some]
 refine many_some (by unfold selL;rw [List.length_map];rfl) fun i x hx=>?_
 unfold selL at hx
 rw [List.getElem?_map,Option.map_eq_some_iff] at hx
 obtain ⟨p,hp,rfl⟩:=hx
 rw [thoC_at hin hp]
 rw [List.all_eq_true] at hin
 exact decEq_mono hl (r.eq (hin p (List.mem_of_getElem? hp)))
def spSpare:List Value -> Heap -> Option Value
 | [.slice a m c,.pointer (some ⟨kn,0,none⟩),.pointer (some ⟨kr,0,none⟩)],h=>match hget h kn,hget h kr with
  | some ⟨_,_,_,[.int .i64 n]⟩,some ⟨_,_,_,[sl]⟩=>match lay 5 h sl,decRows h sl,listAt 1 decN h (.slice a m c) with
   | some cs,some l,some ps=>if cs.all (selfOK h)=true /\ ps.all (inR cs)=true /\ ps.length <= 1000 /\ SysOK n (selL l ps) then some (.bool (!togL n (selL l ps))) else none
   | _,_,_=>none
  | _,_=>none
 | _,_=>none
def c31:ICode:=
 (.seq (.reg [qq 4 (.mv (.c (.bool false)))]) (.seq (.dreg [qu 5 (.load false 1 (.t 1)),qu 6 (.load false 1 (.t 2)),qu 7 (.mv (.t 0)),qu 8 (.call 32 [(.t 6),(.t 7)]),qu 9 (.call 28 [(.t 5),(.t 8)]),qu 10 (.un .not (.t 9)),qu 4 (.mv (.t 10))]) .ret))
theorem tr31:trFun Tryz.prog 31=some ⟨11,[.t 4],c31⟩:=by kernel_rfl
set_option maxHeartbeats 4000000 in
theorem ok_spare:SpecOK Tryz.prog 31 (rdS spSpare):=by
 refine rd_run (env_cons ok_those (env_cons ok_tog (env_nil _))) mixed tr31 ?_ ?_
 ·intro args h h' v hl e
  unfold spSpare at e ⊢
  split at e
  ·split at e
   ·rename_i b1 b2
    simp only [hl _ _ b1,hl _ _ b2]
    split at e
    ·rename_i cs l ps h1 h2 h3
     split at e
     ·rename_i hc
      simp only [lay_mono hl h1,decRows_mono hl h2,listAt_mono hl (fun _ _ e=>e) h3]
      rw [if_pos ⟨selfsOK_mono hl hc.1,hc.2⟩];exact e
     ·cases e
    ·cases e
   ·cases e
  ·cases e
 intro args v h N hG hN
 unfold spSpare at hG
 split at hG
 case h_2=>cases hG
 rename_i a m c kn kr
 split at hG
 case h_2=>cases hG
 rename_i e1 z1 x1 n e2 z2 x2 sl hn hr
 split at hG
 case h_2=>cases hG
 rename_i cs l ps h1 h2 h3
 split at hG
 case isFalse=>cases hG
 rename_i hs
 obtain ⟨hself,hin,hps,sys⟩:=hs
 cases hG
 obtain ⟨a',c',e⟩:=listAt_sl h3
 cases e
 have R:RowsS h sl l cs:=⟨h1,h2,hself⟩
 refine ⟨by rfl,by simp,?_⟩
 have ft:spThose [sl,.slice a ps.length c] h=some (thNL cs ps):=by
  unfold spThose
  simp only [h1,h3]
  exact if_pos ⟨hself,hin,hps⟩
 by_cases z:ps=[]
 ·subst z
  have kt:nwL spThose [sl,.slice a 0 c] h (N+0)=some (.slice none 0 0,[],0):=by
   unfold nwL
   rw [show spThose [sl,.slice a 0 c] h=some (thNL cs []) from ft];rfl
  have tk:spTog [.int .i64 n,.slice none 0 0] h=some (.bool (togL n (selL l []))):=tog_of rfl sys
  simp only [c31,G0,Nat.reduceAdd]
  simp only [↓R0,R1,simprocAttr,-Int.reduceAbs,rdS,hn,hr,kt,tk,Fin,isEnd,resL,res1]
  exact ⟨_,rfl,rfl,fun k hk=>by simp only [ne_nb hk,if_false]⟩
 ·have kt:nwL spThose [sl,.slice a ps.length c] h (N+0)=some (.slice (some ⟨N+0,0,none⟩) ps.length ps.length,[(N+0,some ⟨40,5,false,thoC cs ps⟩)],1):=by
   unfold nwL
   rw [ft]
   unfold thNL
   rw [if_neg z];rfl
  have hl2:hle h ((N+0,some ⟨40,5,false,thoC cs ps⟩) :: h):=fun k b e=>by
   have:=hN _ _ e
   simp only [hget]
   rw [if_neg (by omega)];exact e
  have tk:spTog [.int .i64 n,.slice (some ⟨N+0,0,none⟩) ps.length ps.length] ((N+0,some ⟨40,5,false,thoC cs ps⟩) :: h)=some (.bool (togL n (selL l ps))):=
   tog_of (R.those hin hl2 (Nat.le_refl _) (if_pos rfl)).rows sys
  generalize thoC cs ps=CS at *
  simp only [c31,G0,Nat.reduceAdd]
  simp only [↓R0,R1,simprocAttr,-Int.reduceAbs,rdS,hn,hr,kt,tk,Fin,isEnd,resL,res1]
  exact ⟨_,rfl,rfl,fun k hk=>by simp only [ne_nb hk,if_false]⟩
def minS (n:Int) (l:List EqR):Nat -> List Int × Nat
 | 0=>((List.range l.length).map fun (i:Nat)=>((i:Nat):Int),0)
 | i+1=>if togL n (selL l (delL i (minS n l i).1))=true then minS n l i else (delL i (minS n l i).1,(minS n l i).1.length - (delL i (minS n l i).1).length)
theorem minS_mem (n:Int) (l:List EqR):∀ i,∀ p ∈ (minS n l i).1,0 <= p /\ p.toNat < l.length
 | 0,p,hp=>by
  unfold minS at hp
  obtain ⟨j,hj,rfl⟩:=List.mem_map.1 hp
  have:=List.mem_range.1 hj
  omega
 | i+1,p,hp=>by
  unfold minS at hp
  split at hp
  ·exact minS_mem n l i p hp
  ·exact minS_mem n l i p (List.mem_filter.1 hp).1
theorem minS_len (n:Int) (l:List EqR):∀ i,(minS n l i).1.length <= l.length
 | 0=>by unfold minS;rw [List.length_map,List.length_range];exact Nat.le_refl _
 | i+1=>by
  unfold minS
  split
  ·exact minS_len n l i
  ·exact Nat.le_trans (delL_len _ _) (minS_len n l i)
theorem selL_all (l:List EqR):selL l ((List.range l.length).map fun (i:Nat)=>((i:Nat):Int))=l:=by
 unfold selL
 rw [List.map_map]
 refine List.ext_getElem? fun i=>?_
 rw [List.getElem?_map]
 by_cases h:i < l.length
 ·rw [List.getElem?_range h,eqAt_some h];rfl
 ·rw [List.getElem?_eq_none (by rw [List.length_range];omega),List.getElem?_eq_none (by omega)];rfl
theorem minS_clash {n:Int} {l:List EqR} (h:togL n l=false):∀ i,togL n (selL l (minS n l i).1)=false
 | 0=>by
  have:selL l (minS n l 0).1=l:=selL_all l
  rw [this];exact h
 | i+1=>by
  unfold minS
  split
  ·exact minS_clash h i
  ·rename_i e;simpa using e
structure MinOK (n:Int) (l:List EqR):Prop where
 len:l.length <= 1000
 sys:SysOK n l
 sub:∀ ps:List Int,(∀ p ∈ ps,0 <= p /\ p.toNat < l.length) -> ps.length <= l.length -> SysOK n (selL l ps)
 nil:togL n []=true
noncomputable instance {n:Int} {l:List EqR}:Decidable (MinOK n l):=Classical.propDecidable _
def minNL (n:Int) (l:List EqR):NewL:=
 if togL n l=true then ⟨0,fun _ => .slice none 0 0,fun _=>0,fun _=>0,fun _ _=>[]⟩
 else ⟨1,fun σ => .slice (some ⟨σ 0,0,none⟩) (minS n l l.length).1.length ((minS n l l.length).1.length+(minS n l l.length).2),fun _=>3,fun _=>1,
  fun _ _=>intZ ((minS n l l.length).1 ++ List.replicate (minS n l l.length).2 0)⟩
noncomputable def spMin:List Value -> Heap -> Option NewL
 | [.int .i64 n,sl],h=>match lay 5 h sl,decRows h sl with
  | some cs,some l=>if cs.all (selfOK h)=true /\ MinOK n l then some (minNL n l) else none
  | _,_=>none
 | _,_=>none
theorem spMin_mono {args:List Value} {h h':Heap} {r:NewL} (hl:hle h h') (e:spMin args h=some r):spMin args h'=some r:=by
 unfold spMin at e ⊢
 split at e
 ·split at e
  ·rename_i cs l h1 h2
   split at e
   ·rename_i hc
    simp only [lay_mono hl h1,decRows_mono hl h2]
    rw [if_pos ⟨selfsOK_mono hl hc.1,hc.2⟩];exact e
   ·cases e
  ·cases e
 ·cases e
theorem min_of {h:Heap} {n:Int} {l:List EqR} {sl:Value} {cs:List Value} (R:RowsS h sl l cs) (hs:MinOK n l):spMin [.int .i64 n,sl] h=some (minNL n l):=by
 unfold spMin
 simp only [R.lay,R.rows]
 exact if_pos ⟨R.self,hs⟩
theorem intC_Z (l:List Nat):intC l=intZ (l.map fun (i:Nat)=>((i:Nat):Int)):=by unfold intC intZ;rw [List.map_map];rfl
theorem intZ_list {h:Heap} {k e s c:Nat} {x:Bool} {L Z:List Int} (hb:hget h k=some ⟨e,s,x,intZ (L ++ Z)⟩) (hc:L.length <= c):listAt 1 decN h (.slice (some ⟨k,0,none⟩) L.length c)=some L:=by
 have ll:=intZ_len (L ++ Z)
 rw [List.length_append] at ll
 have la:lay 1 h (.slice (some ⟨k,0,none⟩) L.length c)=some ((intZ (L ++ Z)).take L.length):=by
  unfold lay
  cases e:L.length with
  | zero=>
   simp only [hb]
   rw [if_pos ⟨by omega,by omega⟩,List.drop_zero,Nat.mul_one]
  | succ n=>
   simp only [hb]
   rw [if_pos ⟨by omega,by omega⟩,List.drop_zero,Nat.mul_one]
 unfold listAt
 rw [la,Option.bind_some]
 refine many_some rfl fun i z hz=>?_
 have hlt:=(List.getElem?_eq_some_iff.1 hz).1
 have g:((intZ (L ++ Z)).take L.length)[i]?=some (.int .i64 z):=by
  rw [List.getElem?_take_of_lt hlt]
  exact intZ_get (by rw [List.getElem?_append_left hlt];exact hz)
 rw [Nat.mul_one,List.drop_eq_getElem_cons (List.getElem?_eq_some_iff.1 g).1,(List.getElem?_eq_some_iff.1 g).2]
 rfl
def c12:RCode:=
 (.seq (.plain (.reg [qq 2 (.box 3 1 (.t 0)),qq 3 (.box 22 1 (.t 1)),qq 4 (.mv (.c (.slice none 0 0)))])) (.seq (.plain (.seq (.reg [qq 9 (.load false 1 (.t 2)),qq 10 (.load false 1 (.t 3)),qq 11 (.call 28 [(.t 9),(.t 10)])]) (.cond (.t 11) (.seq (.reg [qq 4 (.mv (.c (.slice none 0 0)))]) .ret) .skip))) (.seq (.plain (.reg [qq 12 (.load false 1 (.t 3)),qq 13 (.call 30 [(.t 12)]),qq 14 (.call 29 [(.t 13)]),qq 5 (.alloc 27 1 [(.slice none 0 0)]),qn (.store 1 (.t 5) (.t 14))])) (.seq (.plain (.reg [qq 15 (.mkfn 31 [(.t 2),(.t 3)]),qq 6 (.alloc 57 1 [.nilFunc]),qn (.store 1 (.t 6) (.t 15))])) (.seq (.seq (.plain (.reg [qq 16 (.load false 1 (.t 3)),qq 17 (.call 30 [(.t 16)])])) (.block 0 (.rng (.t 17) 18 (.reg [qq 7 (.alloc 3 1 [(.int .i64 0)]),qn (.store 1 (.t 7) (.t 18))]) (.block 1 (.seq (.reg [qq 19 (.load false 1 (.t 5)),qq 20 (.call 34 [(.t 19)]),qq 21 (.mkfn 35 [(.t 7)]),qq 22 (.call 33 [(.t 20),(.t 21)]),qq 8 (.mv (.t 22))]) (.seq (.reg [qq 23 (.load false 1 (.t 6)),qq 24 (.mv (.t 8)),qq 25 (.callv (.t 23) [(.t 24)])]) (.cond (.t 25) (.reg [qq 26 (.mv (.t 8)),qn (.store 1 (.t 5) (.t 26))]) .skip))))))) (.plain (.seq (.reg [qq 27 (.load false 1 (.t 5)),qq 4 (.mv (.t 27))]) .ret)))))))
theorem tr12:trFunR Tryz.prog 12=some ⟨28,[.t 4],c12⟩:=by kernel_rfl
set_option maxHeartbeats 16000000 in
theorem ok_min:SpecOK Tryz.prog 12 (nwL spMin):=by
 refine newR_run (env_cons ok_tog (env_cons ok_eachC (env_cons ok_col (env_cons ok_cloneI (env_cons ok_delI (env_cons ok_spare (env_nil _))))))) mixed each_iters tr12 (fun _ _ _ _=>spMin_mono) ?_
 intro args h N r hG hN
 unfold spMin at hG
 split at hG
 case h_2=>cases hG
 rename_i n sl
 split at hG
 case h_2=>cases hG
 rename_i cs l h1 h2
 split at hG
 case isFalse=>cases hG
 rename_i hs
 obtain ⟨hself,ok⟩:=hs
 cases hG
 have R:RowsS h sl l cs:=⟨h1,h2,hself⟩
 obtain ⟨hcl,a,c,rfl⟩:=R.len
 refine ⟨?_,by simp,?_⟩
 ·unfold minNL
  split
  ·exact ⟨fun β σ σ' _ _ => .base _ rfl,fun β σ σ' _ _ i hi=>absurd hi (Nat.not_lt_zero i)⟩
  ·exact ⟨fun β σ σ' b1 _=>VR.sl (σ 0) 0 _ _ ⟨σ' 0,0,[]⟩ (b1 0 Nat.one_pos),fun β σ σ' _ b2 i hi=>VRs.of_base (intZ_base _)⟩
 have rows:∀ hp,ExtL N h hp -> RowsS hp (.slice a l.length c) l cs:=fun hp he=>R.mono fun k b e=>by rw [he k (hN _ _ e)];exact e
 have tk:∀ hp,ExtL N h hp -> spTog [.int .i64 n,.slice a l.length c] hp=some (.bool (togL n l)):=fun hp he=>tog_of (rows hp he).rows ok.sys
 have x0:=extL_ge (Nat.le_refl N)
 have x1:ExtL N h h=True:=eq_true fun _ _=>rfl
 by_cases tg:togL n l=true
 ·rw [tg] at tk
  unfold minNL
  rw [if_pos tg]
  simp only [c12,G0,Nat.reduceAdd]
  simp only [↓R0,R1,simprocAttr,-Int.reduceAbs,y_plain,y_seq,y_block,y_rng,rdS,tk,x0,x1,FinL,isEnd,resL,res1]
  refine ⟨fun i=>i,_,fun i hi=>absurd hi (Nat.not_lt_zero i),fun i j hi=>absurd hi (Nat.not_lt_zero i),rfl,rfl,fun i hi=>absurd hi (Nat.not_lt_zero i),fun k hk=>?_⟩
  have nb:∀ q,(N+q=k)=False:=fun q=>eq_false (by omega)
  simp only [↓R0,R1,simprocAttr,-Int.reduceAbs,nb]
 have tf:togL n l=false:=by simpa using tg
 rw [tf] at tk
 unfold minNL
 rw [if_neg tg]
 have m0:0 < l.length:=by
  cases l with
  | nil=>exact absurd ok.nil tg
  | cons x l=>simp
 have hlen:=ok.len
 have so:slOK h (.slice a l.length c)=true:=by
  obtain ⟨k,off,blk,ea,hb,_⟩:=lay_pos h1 m0
  subst ea
  simp [slOK,hb]
 have ke:∀ hp k,ExtL N h hp -> nwL spEachC [.slice a l.length c] hp k=some (eachV k,[(k,some ⟨22,1,false,[.slice a l.length c]⟩)],1):=fun hp k he=>by
  unfold nwL spEachC
  simp only
  rw [if_pos (slOK_mono (fun k b e=>by rw [he k (hN _ _ e)];exact e) so)]
  rfl
 have kc:∀ hp k,hget hp k=some ⟨22,1,false,[.slice a l.length c]⟩ -> spColl [.func (.func 51) ⟨[]⟩ ⟨[.pointer (some ⟨k,0,none⟩)]⟩] hp=some (fun k => .slice (some ⟨k,0,none⟩) l.length l.length,⟨3,1,false,intC (List.range l.length)⟩):=fun hp k hk=>by
  unfold spColl spApS
  simp only [hk]
  exact if_pos ⟨trivial,m0,hlen⟩
 simp only [c12,G0,Nat.reduceAdd]
 simp only [↓R0,R1,simprocAttr,-Int.reduceAbs,y_plain,y_seq,y_block,y_rng,rdS,nwS,tk,ke,kc,x0,x1,eachV]
 refine rg_parts (fun i hp nx=>∃ (M kk:Nat) (x:Bool),hget hp (N+0)=some ⟨3,1,true,[.int .i64 n]⟩ /\ hget hp (N+1)=some ⟨22,1,true,[.slice a l.length c]⟩ /\
   hget hp (N+4)=some ⟨27,1,true,[.slice (some ⟨kk,0,none⟩) (minS n l i).1.length ((minS n l i).1.length+(minS n l i).2)]⟩ /\
   hget hp (N+5)=some ⟨57,1,true,[.func (.func 31) ⟨[]⟩ ⟨[.pointer (some ⟨N+0,0,none⟩),.pointer (some ⟨N+1,0,none⟩)]⟩]⟩ /\
   hget hp kk=some ⟨3,1,x,intZ ((minS n l i).1 ++ List.replicate (minS n l i).2 0)⟩ /\ (kk=N+3 \/ N+7 <= kk) /\ kk < M /\ (∀ q,q < N -> hget hp q=hget h q) /\ N+7 <= M /\ nx=M+0) (k:=N+6) (e:=22) (sz:=1) (x:=false) (a:=a) (len:=l.length) (cap:=c) ?_ ?_ hlen ?_ ?_ ?_
 ·simp only [↓R0,R1,simprocAttr,-Int.reduceAbs]
 ·simp only [↓R0,R1,simprocAttr,-Int.reduceAbs]
 ·have s0:(minS n l 0).1.length=l.length:=by unfold minS;rw [List.length_map,List.length_range]
  have s1:(minS n l 0).2=0:=rfl
  have s2:intZ (minS n l 0).1=intC (List.range l.length):=(intC_Z _).symm
  refine ⟨N+7,N+3,false,?_,?_,?_,?_,?_,.inl rfl,by omega,fun q hq=>?_,Nat.le_refl _,rfl⟩
  ·simp only [↓R0,R1,simprocAttr,-Int.reduceAbs]
  ·simp only [↓R0,R1,simprocAttr,-Int.reduceAbs]
  ·rw [s0,s1]
   simp only [↓R0,R1,simprocAttr,-Int.reduceAbs]
   rfl
  ·simp only [↓R0,R1,simprocAttr,-Int.reduceAbs]
  ·rw [s1,List.replicate_zero,List.append_nil,s2]
   simp only [↓R0,R1,simprocAttr,-Int.reduceAbs]
  ·have nb:∀ d,(N+d=q)=False:=fun d=>eq_false (by omega)
   simp only [↓R0,R1,simprocAttr,-Int.reduceAbs,nb]
 ·rintro i hp nx ⟨M,kk,x,b0,b1,b4,b5,bk,hkk,hkM,hh,hM,hnx⟩ hi hnn
  rw [hnx]
  clear hnx hnn nx
  have mm:=minS_mem n l i
  have ml:=minS_len n l i
  have mc:=minS_clash tf i
  have mS:minS n l (i+1)=if togL n (selL l (delL i (minS n l i).1))=true then minS n l i else (delL i (minS n l i).1,(minS n l i).1.length - (delL i (minS n l i).1).length):=rfl
  generalize minS n l i=S at *
  obtain ⟨L,z⟩:=S
  simp only at mm ml mc b4 bk mS
  have L0:0 < L.length:=by
   cases L with
   | nil=>rw [show selL l []=[] from rfl,ok.nil] at mc;cases mc
   | cons x L=>simp
  have zl:=intZ_len (L ++ List.replicate z 0)
  rw [List.length_append,List.length_replicate] at zl
  have ztk:(intZ (L ++ List.replicate z 0)).take L.length=intZ L:=by rw [intZ_take,List.take_left'];rfl
  have cl:∀ hp',hget hp' kk=some ⟨3,1,x,intZ (L ++ List.replicate z 0)⟩ -> spCloneI [.slice (some ⟨kk,0,none⟩) L.length (L.length+z)] hp'=some (fun k => .slice (some ⟨k,0,none⟩) L.length L.length,⟨3,1,false,intZ L⟩):=fun hp' hk=>by
   unfold spCloneI
   simp only [hk,ztk,unZ_of]
   exact if_pos ⟨L0,by omega,by omega⟩
  have dl:=delL_len (i:Int) L
  have de:∀ hp',hget hp' (M+1)=some ⟨3,1,false,intZ L⟩ -> hget hp' (M+0)=some ⟨3,1,true,[.int .i64 i]⟩ ->
    spDel [.slice (some ⟨M+1,0,none⟩) L.length L.length,.func (.func 35) ⟨[]⟩ ⟨[.pointer (some ⟨M+0,0,none⟩)]⟩] hp' =
     some (.slice (some ⟨M+1,0,none⟩) (delL i L).length L.length,M+1,⟨3,1,false,intZ (delL i L ++ List.replicate (L.length - (delL i L).length) 0)⟩):=fun hp' g1 g2=>by
   unfold spDel
   simp only [g1,g2,unZ_of]
   exact if_pos ⟨trivial,trivial,Nat.le_refl _,by omega,trivial,by omega⟩
  have inps:(delL i L).all (inR cs)=true:=by
   rw [List.all_eq_true]
   intro p hp'
   obtain ⟨q1,q2⟩:=mm p (List.mem_filter.1 hp').1
   have:=R.inR q2
   rw [Int.toNat_of_nonneg q1] at this
   exact this
  have sys2:=ok.sub (delL i L) (fun p hp'=>mm p (List.mem_filter.1 hp').1) (by omega)
  have sp:∀ hp',ExtL N h hp' -> hget hp' (N+0)=some ⟨3,1,true,[.int .i64 n]⟩ -> hget hp' (N+1)=some ⟨22,1,true,[.slice a l.length c]⟩ -> hget hp' (M+1)=some ⟨3,1,false,intZ (delL i L ++ List.replicate (L.length - (delL i L).length) 0)⟩ ->
    spSpare [.slice (some ⟨M+1,0,none⟩) (delL i L).length L.length,.pointer (some ⟨N+0,0,none⟩),.pointer (some ⟨N+1,0,none⟩)] hp'=some (.bool (!togL n (selL l (delL i L)))):=fun hp' he g0 g1 g2=>by
   have R':=rows hp' he
   unfold spSpare
   simp only [g0,g1,R'.lay,R'.rows,intZ_list g2 dl]
   exact if_pos ⟨R'.self,inps,by omega,sys2⟩
  have xg:=extL_ge (show N <= M by omega)
  have xh:ExtL N h hp=True:=eq_true hh
  have M0:∀ d d',(M+d=N+d')=(M+d=N+d'):=fun _ _=>rfl
  have e0:∀ d,(M+d=N+0)=False:=fun d=>eq_false (by omega)
  have e1:∀ d,(M+d=N+1)=False:=fun d=>eq_false (by omega)
  have e4:∀ d,(M+d=N+4)=False:=fun d=>eq_false (by omega)
  have e5:∀ d,(M+d=N+5)=False:=fun d=>eq_false (by omega)
  have f4:∀ d,(N+4=M+d)=False:=fun d=>eq_false (by omega)
  have ek:∀ d,(M+d=kk)=False:=fun d=>eq_false (by omega)
  have ek4:(N+4=kk)=False:=eq_false (by omega)
  have eka:(N=kk)=False:=eq_false (by omega)
  generalize eZ0:intZ (L ++ List.replicate z 0)=ZL0 at *
  generalize eZ:intZ (delL i L ++ List.replicate (L.length - (delL i L).length) 0)=ZL1 at *
  by_cases tg2:togL n (selL l (delL i L))=true
  ·rw [if_pos tg2] at mS
   rw [tg2] at sp
   simp only [↓R0,R1,simprocAttr,-Int.reduceAbs,rdS,nwS,upS,callF,List.append_nil,b0,b1,b4,b5,bk,cl,de,sp,xg,xh,e0,e1,e4,e5,f4,ek,ek4,Bool.not_true]
   refine rk_of ⟨M+2,kk,x,?_,?_,?_,?_,?_,hkk,by omega,fun q hq=>?_,by omega,rfl⟩
   ·simp only [↓R0,R1,simprocAttr,-Int.reduceAbs,e0,b0]
   ·simp only [↓R0,R1,simprocAttr,-Int.reduceAbs,e1,b1]
   ·rw [mS]
    simp only [↓R0,R1,simprocAttr,-Int.reduceAbs,e4,b4]
   ·simp only [↓R0,R1,simprocAttr,-Int.reduceAbs,e5,b5]
   ·rw [mS]
    simp only [eZ0]
    simp only [↓R0,R1,simprocAttr,-Int.reduceAbs,ek,bk]
   ·have nb:∀ d,(M+d=q)=False:=fun d=>eq_false (by omega)
    simp only [↓R0,R1,simprocAttr,-Int.reduceAbs,nb]
    exact hh q hq
  ·rw [if_neg tg2] at mS
   have tg3:togL n (selL l (delL i L))=false:=by simpa using tg2
   rw [tg3] at sp
   simp only [↓R0,R1,simprocAttr,-Int.reduceAbs,rdS,nwS,upS,callF,List.append_nil,b0,b1,b4,b5,bk,cl,de,sp,xg,xh,e0,e1,e4,e5,f4,ek,ek4,Bool.not_false]
   refine rk_of ⟨M+2,M+1,false,?_,?_,?_,?_,?_,.inr (by omega),by omega,fun q hq=>?_,by omega,rfl⟩
   ·simp only [↓R0,R1,simprocAttr,-Int.reduceAbs,e0,b0,show (N+4=N+0)=False from eq_false (by omega)]
   ·simp only [↓R0,R1,simprocAttr,-Int.reduceAbs,e1,b1]
   ·rw [mS]
    simp only [show (delL (i:Int) L).length+(L.length - (delL (i:Int) L).length)=L.length by omega]
    simp only [↓R0,R1,simprocAttr,-Int.reduceAbs,e4,b4]
   ·simp only [↓R0,R1,simprocAttr,-Int.reduceAbs,e5,b5]
   ·rw [mS]
    simp only [eZ]
    simp only [↓R0,R1,simprocAttr,-Int.reduceAbs,f4]
   ·have nb:∀ d,(M+d=q)=False:=fun d=>eq_false (by omega)
    have nc:(N+4=q)=False:=eq_false (by omega)
    simp only [↓R0,R1,simprocAttr,-Int.reduceAbs,nb,nc]
    exact hh q hq
 ·rintro hp nx ⟨M,kk,x,b0,b1,b4,b5,bk,hkk,hkM,hh,hM,hnx⟩ hnn
  rw [hnx]
  clear hnx hnn nx
  simp only [↓R0,R1,simprocAttr,-Int.reduceAbs,y_plain,y_seq,y_block,b4,FinL,isEnd,resL,res1]
  exact ⟨fun _=>kk,_,fun i hi=>(by omega:N <= kk),fun i j (hi:i < 1) (hj:j < 1) _=>by omega,rfl,rfl,fun i hi=>⟨x,bk⟩,hh⟩
theorem src_lay {h:Heap} {sz:Nat} {a:Addr} {n c:Nat} {cs:List Value} (e:lay sz h (.slice (some a) n c)=some cs):srcOf h sz n (some a)=some cs:=by
 by_cases z:n=0
 ·subst z
  obtain ⟨k,off,tag⟩:=a
  have l0:cs=[]:=by
   obtain ⟨a',l',c',e',hl⟩:=lay_len e
   cases e'
   exact List.eq_nil_of_length_eq_zero (by omega)
  subst l0
  cases tag with
  | some t=>unfold srcOf;exact if_pos rfl
  | none=>
   unfold lay at e
   cases hb:hget h k with
   | none=>simp [hb] at e
   | some blk=>
    simp only [hb] at e
    split at e
    ·unfold srcOf
     simp only [hb,Option.bind_some]
     rw [if_pos (by omega)]
     simp
    ·cases e
 ·obtain ⟨k,off,blk,ea,hb,_,hle,rfl⟩:=lay_pos e (by omega)
  cases ea
  unfold srcOf
  simp only [hb,Option.bind_some]
  rw [if_pos hle]
def eqNLc (n:Nat) (cs:List Value):NewL:=⟨1,fun σ => .slice (some ⟨σ 0,0,none⟩) n n,fun _=>40,fun _=>5,fun _ _=>cs⟩
def spCloneE:List Value -> Heap -> Option NewL
 | [.slice (some a) n c],h=>match lay 5 h (.slice (some a) n c) with
  | some cs=>if cs.all (selfOK h)=true /\ n <= 1000 then some (eqNLc n cs) else none
  | none=>none
 | _,_=>none
theorem spCloneE_mono {args:List Value} {h h':Heap} {r:NewL} (hl:hle h h') (e:spCloneE args h=some r):spCloneE args h'=some r:=by
 unfold spCloneE at e ⊢
 split at e
 ·split at e
  ·rename_i cs hb
   split at e
   ·rename_i hc
    simp only [lay_mono hl hb]
    rw [if_pos ⟨selfsOK_mono hl hc.1,hc.2⟩];exact e
   ·cases e
  ·cases e
 ·cases e
def c55:ICode:=
 (.seq (.reg [qq 2 (.mv (.c (.slice none 0 0)))]) (.seq (.seq (.reg [qq 3 (.mv (.t 0)),qq 4 (.nils false (.t 3) (.c (.slice none 0 0)))]) (.cond (.t 4) (.seq (.reg [qq 2 (.mv (.c (.slice none 0 0)))]) .ret) .skip)) (.seq (.reg [qq 5 (.bslice 40 5 0 [] []),qq 6 (.mv (.t 0)),qq 7 (.app 40 5 72 (.t 5) (.t 6)),qq 2 (.mv (.t 7))]) .ret)))
theorem tr55:trFun Tryz.prog 55=some ⟨8,[.t 2],c55⟩:=by kernel_rfl
set_option maxHeartbeats 2000000 in
theorem ok_cloneE:SpecOK Tryz.prog 55 (nwL spCloneE):=by
 refine newL_run (env_nil _) mixed tr55 (fun _ _ _ _=>spCloneE_mono) ?_
 intro args h N r hG hN
 unfold spCloneE at hG
 split at hG
 case h_2=>cases hG
 rename_i a n c
 split at hG
 case h_2=>cases hG
 rename_i cs hx
 split at hG
 case isFalse=>cases hG
 rename_i hs
 obtain ⟨hself,hn⟩:=hs
 cases hG
 refine ⟨⟨fun β σ σ' b1 _=>VR.sl (σ 0) 0 _ _ ⟨σ' 0,0,[]⟩ (b1 0 Nat.one_pos),fun β σ σ' _ b2 i hi=>selfsOK_vrs b2 hself⟩,by simp,?_⟩
 have ln:cs.length=n * 5:=by
  obtain ⟨a',l',c',e',hl⟩:=lay_len hx
  cases e'
  exact hl
 have sr:∀ b:Option Blk,srcOf ((N+0,b) :: h) 5 n (some a)=some cs:=fun b=>src_lay (lay_mono (fun k b' e=>by
  have:=hN _ _ e
  simp only [hget,show (N+0=k)=False from eq_false (by omega),if_false];exact e) hx)
 have lok:=selfsOK_cells hself
 by_cases z:n=0
 ·subst z
  have hl:cs=[]:=List.eq_nil_of_length_eq_zero (by omega)
  subst hl
  simp only [c55,G0,Nat.reduceAdd]
  simp only [↓R0,R1,simprocAttr,-Int.reduceAbs,sr,Bool.not_false,Bool.not_true,FinL,isEnd,resL,res1]
  refine ⟨fun _=>N+0,_,fun i hi=>Nat.le_refl _,fun i j (hi:i < 1) (hj:j < 1) _=>by omega,rfl,rfl,fun i hi=>⟨true,?_⟩,fun k hk=>?_⟩
  ·simp only [↓R0,R1,simprocAttr,-Int.reduceAbs]
   rfl
  ·have nb:∀ q,(N+q=k)=False:=fun q=>eq_false (by omega)
   simp only [↓R0,R1,simprocAttr,-Int.reduceAbs,nb]
 ·have z':(n=0)=False:=eq_false z
  have z2:(n <= 0)=False:=eq_false (by omega)
  have b1:(n * 72 <= 140737488355328)=True:=eq_true (by omega)
  simp only [c55,G0,Nat.reduceAdd]
  simp only [↓R0,R1,simprocAttr,-Int.reduceAbs,sr,z',z2,b1,ln,lok,Nat.zero_add,Nat.zero_mul,Bool.not_false,Bool.not_true,FinL,isEnd,resL,res1]
  refine ⟨fun _=>N+1,_,fun i hi=>Nat.le_add_right _ _,fun i j (hi:i < 1) (hj:j < 1) _=>by omega,rfl,rfl,fun i hi=>⟨false,?_⟩,fun k hk=>?_⟩
  ·simp only [↓R0,R1,simprocAttr,-Int.reduceAbs]
   rfl
  ·have nb:∀ q,(N+q=k)=False:=fun q=>eq_false (by omega)
   simp only [↓R0,R1,simprocAttr,-Int.reduceAbs,nb]
theorem decEq_len {h:Heap} {cs:List Value} {e:EqR} (x:decEq h cs=some e):cs.length=5:=by
 obtain ⟨sl,rfl,_⟩:=decEq_eq x
 rfl
theorem RowsS.push {h h':Heap} {sl:Value} {l:List EqR} {cs:List Value} (r:RowsS h sl l cs) {ec:List Value} {e:EqR} (he:decEq h ec=some e) (hself:ec.all (selfOK h)=true) (hl:hle h h') {k el sz c:Nat} {x:Bool} (hc:l.length+1 <= c) (hk:hget h' k=some ⟨el,sz,x,cs ++ ec⟩) :
  RowsS h' (.slice (some ⟨k,0,none⟩) (l.length+1) c) (l ++ [e]) (cs ++ ec):=by
 have hlen:=r.len.1
 have h5:=decEq_len he
 have la:Go.Eng.lay 5 h' (.slice (some ⟨k,0,none⟩) (l.length+1) c)=some (cs ++ ec):=by
  unfold Go.Eng.lay
  simp only [hk]
  rw [if_pos ⟨hc,by rw [List.length_append];omega⟩,List.drop_zero,List.take_of_length_le (by rw [List.length_append];omega)]
 refine ⟨la,?_,?_⟩
 ·unfold decRows listAt
  rw [la,Option.bind_some]
  refine many_some (by rw [List.length_append];rfl) fun i x hx=>?_
  by_cases hi:i < l.length
  ·rw [List.getElem?_append_left hi] at hx
   have hm:i * 5+5 <= cs.length:=by omega
   rw [List.drop_append_of_le_length (by omega),List.take_append_of_le_length (by rw [List.length_drop];omega)]
   have e0:=r.rows
   unfold decRows listAt at e0
   rw [r.lay,Option.bind_some] at e0
   exact decEq_mono hl ((many_get e0).2 i x hx)
  ·have hlt:=(List.getElem?_eq_some_iff.1 hx).1
   rw [List.length_append,List.length_singleton] at hlt
   have hi':i=l.length:=by omega
   subst hi'
   rw [List.getElem?_append_right (Nat.le_refl _),Nat.sub_self] at hx
   simp only [List.getElem?_cons_zero,Option.some.injEq] at hx
   subst hx
   rw [List.drop_append,List.drop_of_length_le (by omega),List.nil_append,hlen,Nat.sub_self,List.drop_zero,List.take_of_length_le (by omega)]
   exact decEq_mono hl he
 ·rw [List.all_append,Bool.and_eq_true]
  exact ⟨selfsOK_mono hl r.self,selfsOK_mono hl hself⟩
def bump (e:EqR):EqR:={ e with rhs:=RQ.of (e.rhs.v+1) }
structure FolOK (n:Int) (l:List EqR) (e:EqR):Prop where
 len:l.length <= 900
 s1:SysOK n (l ++ [e])
 s2:SysOK n (l ++ [bump e])
 rn:e.rhs.n.length <= 8589934592
 rd:e.rhs.d.length <= 8589934592
noncomputable instance {n:Int} {l:List EqR} {e:EqR}:Decidable (FolOK n l e):=Classical.propDecidable _
def folL (n:Int) (l:List EqR) (e:EqR):Bool:=togL n (l ++ [e]) && !togL n (l ++ [bump e])
noncomputable def spFol:List Value -> Heap -> Option Value
 | [.int .i64 n,.slice (some a) m c,.agg ⟨ec⟩],h=>match lay 5 h (.slice (some a) m c),decRows h (.slice (some a) m c),decEq h ec with
  | some cs,some l,some e=>if cs.all (selfOK h)=true /\ ec.all (selfOK h)=true /\ FolOK n l e then some (.bool (folL n l e)) else none
  | _,_,_=>none
 | _,_=>none
theorem spFol_mono {args:List Value} {h h':Heap} {r:Value} (hl:hle h h') (e:spFol args h=some r):spFol args h'=some r:=by
 unfold spFol at e ⊢
 split at e
 ·split at e
  ·rename_i cs l x h1 h2 h3
   split at e
   ·rename_i hc
    simp only [lay_mono hl h1,decRows_mono hl h2,decEq_mono hl h3]
    rw [if_pos ⟨selfsOK_mono hl hc.1,selfsOK_mono hl hc.2.1,hc.2.2⟩];exact e
   ·cases e
  ·cases e
 ·cases e
def c36:ICode:=
 (.seq (.reg [qq 5 (.box 40 5 (.t 2)),qq 6 (.mv (.c (.bool false)))]) (.seq (.reg [qq 8 (.load true 5 (.t 5)),qq 7 (.alloc 40 5 [(.slice none 0 0),(.bool false),e0,e0,(.int .i64 0)]),qn (.store 5 (.t 7) (.t 8))]) (.seq (.dreg [qu 9 (.faddr 1 (.t 5)),qu 10 (.load true 3 (.t 9)),qu 11 (.call 54 [(ci 1)]),qu 12 (.call 53 [(.t 10),(.t 11)]),qu 13 (.faddr 1 (.t 7)),qm (.store 3 (.t 13) (.t 12))]) (.seq (.dreg [qu 14 (.mv (.t 0)),qu 15 (.mv (.t 1)),qu 16 (.call 55 [(.t 15)]),qv 17 [2] (.load true 5 (.t 5)),qu 18 (.bslice 40 5 1 [(.slice none 0 0),(.bool false),e0,e0,(.int .i64 0)] [(0,5,(.t 17))]),qu 19 (.app 40 5 72 (.t 16) (.t 18)),qu 20 (.call 28 [(.t 14),(.t 19)]),qu 21 (.mv (.t 20)),⟨(some 22),(some (21,true)),[],(.mv (.t 0))⟩,⟨(some 23),(some (21,true)),[],(.mv (.t 1))⟩,⟨(some 24),(some (21,true)),[],(.call 55 [(.t 23)])⟩,⟨(some 25),(some (21,true)),[10],(.load true 5 (.t 7))⟩,⟨(some 26),(some (21,true)),[],(.bslice 40 5 1 [(.slice none 0 0),(.bool false),e0,e0,(.int .i64 0)] [(0,5,(.t 25))])⟩,⟨(some 27),(some (21,true)),[],(.app 40 5 72 (.t 24) (.t 26))⟩,⟨(some 28),(some (21,true)),[],(.call 28 [(.t 22),(.t 27)])⟩,⟨(some 29),(some (21,true)),[],(.un .not (.t 28))⟩,qu 30 (.pick (.t 21) (.t 29) (.c (.bool false))),qu 6 (.mv (.t 30))]) .ret))))
theorem tr36:trFun Tryz.prog 36=some ⟨31,[.t 6],c36⟩:=by kernel_rfl
set_option maxHeartbeats 16000000 in
theorem ok_fol:SpecOK Tryz.prog 36 (rdS spFol):=by
 refine rd_run (env_cons ok_qFrom (env_cons ok_qAdd (env_cons ok_cloneE (env_cons ok_tog (env_nil _))))) mixed tr36 (fun _ _ _ _=>spFol_mono) ?_
 intro args v h N hG hN
 unfold spFol at hG
 split at hG
 case h_2=>cases hG
 rename_i n a m c ec
 split at hG
 case h_2=>cases hG
 rename_i cs l e h1 h2 h3
 split at hG
 case isFalse=>cases hG
 rename_i hs
 obtain ⟨hself,heself,ok⟩:=hs
 cases hG
 have R:RowsS h (.slice (some a) m c) l cs:=⟨h1,h2,hself⟩
 obtain ⟨hcl,a',c',ea⟩:=R.len
 cases ea
 obtain ⟨se,rfl,hse⟩:=decEq_eq h3
 refine ⟨by rfl,by simp,?_⟩
 have hle':∀ hp,ExtL N h hp -> hle h hp:=fun hp he k b e=>by rw [he k (hN _ _ e)];exact e
 have hlen:=ok.len
 have kc:∀ hp k,ExtL N h hp -> nwL spCloneE [.slice (some a) l.length c] hp k=some (.slice (some ⟨k,0,none⟩) l.length l.length,[(k,some ⟨40,5,false,cs⟩)],1):=fun hp k he=>by
  unfold nwL spCloneE
  simp only [lay_mono (hle' hp he) h1]
  rw [if_pos ⟨selfsOK_mono (hle' hp he) hself,by omega⟩]
  rfl
 have dt:decEq h (se :: (bump e).tl)=some (bump e):=decEq_of (e:=bump e) hse
 have t1:∀ hp k,ExtL N h hp -> hget hp k=some ⟨40,5,false,cs ++ se :: e.tl⟩ -> spTog [.int .i64 n,.slice (some ⟨k,0,none⟩) (l.length+1) (l.length+1)] hp=some (.bool (togL n (l ++ [e]))):=fun hp k he hk=>
  tog_of (R.push h3 heself (hle' hp he) (Nat.le_refl _) hk).rows ok.s1
 have heself2:(se :: (bump e).tl).all (selfOK h)=true:=by
  rw [List.all_cons,Bool.and_eq_true] at heself ⊢
  exact ⟨heself.1,rfl⟩
 have t2:∀ hp k,ExtL N h hp -> hget hp k=some ⟨40,5,false,cs ++ se :: (bump e).tl⟩ -> spTog [.int .i64 n,.slice (some ⟨k,0,none⟩) (l.length+1) (l.length+1)] hp=some (.bool (togL n (l ++ [bump e]))):=fun hp k he hk=>
  tog_of (R.push dt heself2 (hle' hp he) (Nat.le_refl _) hk).rows ok.s2
 have x0:=extL_ge (Nat.le_refl N)
 have x1:ExtL N h h=True:=eq_true fun _ _=>rfl
 have so:okCell se=true:=selfOK_cell (by rw [List.all_cons,Bool.and_eq_true] at heself;exact heself.1)
 have l1:(l.length+1 <= l.length)=False:=eq_false (by omega)
 have l2:((l.length+1) * 72 <= 140737488355328)=True:=eq_true (by omega)
 have ad:spQAdd [.agg ⟨[.bool e.rhs.s,.string ⟨⟨e.rhs.n⟩⟩,.string ⟨⟨e.rhs.d⟩⟩]⟩,.agg ⟨rE 1⟩]=some (.agg ⟨rE (e.rhs.v+1)⟩):=by
  have h:spQAdd [.agg ⟨e.rhs.cells⟩,.agg ⟨(RQ.of 1).cells⟩]=some (.agg ⟨rE (e.rhs.v+(RQ.of 1).v)⟩):=if_pos ⟨ok.rn,ok.rd,by decide +kernel,by decide +kernel⟩
  rw [RQ.of_v] at h
  exact h
 have fr:spQFrom [.int .i64 1]=some (.agg ⟨rE 1⟩):=by
  have h:spQFrom [.int .i64 1]=some (.agg ⟨rE ((1:Int):Rat)⟩):=by
   unfold spQFrom
   simp only
   rw [if_pos (by omega)]
  exact h
 have bt:(bump e).tl=rE (e.rhs.v+1) ++ [.int .i64 e.line]:=rfl
 have et:e.tl=[.bool e.rhs.s,.string ⟨⟨e.rhs.n⟩⟩,.string ⟨⟨e.rhs.d⟩⟩,.int .i64 e.line]:=rfl
 unfold folL
 cases tg:togL n (l ++ [e]) with
 | false=>
  rw [tg] at t1
  simp only [c36,G0,Nat.reduceAdd]
  simp only [↓R0,R1,simprocAttr,-Int.reduceAbs,rdS,flat,et,kc,t1,t2,x0,x1,so,hcl,l1,l2,ad,fr,setR_length,rE_l3',rE_o3',Fin,isEnd,resL,res1]
  exact ⟨_,rfl,rfl,fun k hk=>by simp only [ne_nb hk,if_false]⟩
 | true=>
  rw [tg] at t1
  have s1:setR [se,.bool e.rhs.s,.string ⟨⟨e.rhs.n⟩⟩,.string ⟨⟨e.rhs.d⟩⟩,.int .i64 e.line] 1 (rE (e.rhs.v+1))=se :: (bump e).tl:=rfl
  have s2:(se :: (bump e).tl).length=5:=rfl
  have s3:(se :: (bump e).tl).take 5=se :: (bump e).tl:=rfl
  have s4:(se :: (bump e).tl).all okCell=true:=by rw [List.all_cons,so];rfl
  have s5:setR [.slice none 0 0,.bool false,.string ⟨⟨[]⟩⟩,.string ⟨⟨[]⟩⟩,.int .i64 0] 0 (se :: (bump e).tl)=se :: (bump e).tl:=rfl
  generalize se :: (bump e).tl=B5 at *
  simp only [c36,G0,Nat.reduceAdd]
  simp only [↓R0,R1,simprocAttr,-Int.reduceAbs,rdS,flat,et,kc,t1,t2,x0,x1,so,hcl,l1,l2,ad,fr,s1,s2,s3,s4,s5,setR_length,rE_l3',rE_o3',Fin,isEnd,resL,res1]
  exact ⟨_,rfl,rfl,fun k hk=>by simp only [ne_nb hk,if_false]⟩
def redS (n:Int) (l:List EqR):Nat -> List Nat × Bool
 | 0=>([],false)
 | i+1=>if (redS n l i).2=true then redS n l i else if togL n (l.take i)=false then ((redS n l i).1,true) else (if folL n (l.take i) (eqAt l i)=true then (redS n l i).1 ++ [i] else (redS n l i).1,false)
def redL (n:Int) (l:List EqR):List Nat:=(redS n l l.length).1
theorem redS_stop {n:Int} {l:List EqR} {i:Nat} (h:(redS n l i).2=true):∀ d,redS n l (i+d)=redS n l i
 | 0=>rfl
 | d+1=>by
  have ih:=redS_stop h d
  show (if (redS n l (i+d)).2=true then redS n l (i+d) else _)=_
  rw [if_pos (by rw [ih];exact h),ih]
theorem redS_len (n:Int) (l:List EqR):∀ i,(redS n l i).1.length <= i
 | 0=>Nat.le_refl _
 | i+1=>by
  have:=redS_len n l i
  unfold redS
  split
  ·omega
  ·split
   ·simp only;omega
   ·split
    ·simp only [List.length_append,List.length_singleton];omega
    ·simp only;omega
structure RdnOK (n:Int) (l:List EqR):Prop where
 len:l.length <= 900
 sys:∀ i,i < l.length -> SysOK n (l.take i)
 fol:∀ i,i < l.length -> FolOK n (l.take i) (eqAt l i)
noncomputable instance {n:Int} {l:List EqR}:Decidable (RdnOK n l):=Classical.propDecidable _
noncomputable def spRed:List Value -> Heap -> Option NewL
 | [.int .i64 n,sl],h=>match lay 5 h sl,decRows h sl with
  | some cs,some l=>if cs.all (selfOK h)=true /\ RdnOK n l then some (intNL (redL n l)) else none
  | _,_=>none
 | _,_=>none
theorem spRed_mono {args:List Value} {h h':Heap} {r:NewL} (hl:hle h h') (e:spRed args h=some r):spRed args h'=some r:=by
 unfold spRed at e ⊢
 split at e
 ·split at e
  ·rename_i cs l h1 h2
   split at e
   ·rename_i hc
    simp only [lay_mono hl h1,decRows_mono hl h2]
    rw [if_pos ⟨selfsOK_mono hl hc.1,hc.2⟩];exact e
   ·cases e
  ·cases e
 ·cases e
theorem red_of {h:Heap} {n:Int} {l:List EqR} {sl:Value} {cs:List Value} (R:RowsS h sl l cs) (hs:RdnOK n l):spRed [.int .i64 n,sl] h=some (intNL (redL n l)):=by
 unfold spRed
 simp only [R.lay,R.rows]
 exact if_pos ⟨R.self,hs⟩
theorem RowsS.take {h:Heap} {k off m c:Nat} {l:List EqR} {cs:List Value} (r:RowsS h (.slice (some ⟨k,off,none⟩) m c) l cs) (hm:0 < m) {i:Nat} (hi:i <= m) :
  RowsS h (.slice (some ⟨k,off,none⟩) i c) (l.take i) (cs.take (i * 5)):=by
 obtain ⟨k',off',blk,ea,hb,hc,hle,rfl⟩:=lay_pos r.lay hm
 cases ea
 have hlm:l.length=m:=by
  obtain ⟨_,a,c',e⟩:=r.len
  cases e;rfl
 have la:Go.Eng.lay 5 h (.slice (some ⟨k,off,none⟩) i c)=some (((blk.cells.drop off).take (m * 5)).take (i * 5)):=by
  rw [List.take_take,Nat.min_eq_left (by omega)]
  unfold Go.Eng.lay
  cases i with
  | zero=>
   simp only [hb]
   rw [if_pos (by omega)]
  | succ i=>
   simp only [hb]
   rw [if_pos (by omega)]
 refine ⟨la,?_,?_⟩
 ·unfold decRows listAt
  rw [la,Option.bind_some]
  have e0:=r.rows
  unfold decRows listAt at e0
  rw [r.lay,Option.bind_some] at e0
  refine many_some (by rw [List.length_take,hlm];show min i m=i;omega) fun j x hx=>?_
  have hj:j < i:=by
   have:=(List.getElem?_eq_some_iff.1 hx).1
   rw [List.length_take] at this;omega
  rw [List.getElem?_take_of_lt hj] at hx
  have:=(many_get e0).2 j x hx
  rw [List.drop_take,List.take_take,Nat.min_eq_left (by omega)]
  exact this
 ·have:=r.self
  rw [List.all_eq_true] at this ⊢
  exact fun v hv=>this v (List.mem_of_mem_take hv)
def c14:ICode:=
 (.seq (.reg [qq 4 (.mv (.c (.slice none 0 0)))]) (.seq (.reg [qq 5 (.mv (.c (.slice none 0 0)))]) (.seq (.seq (.reg [qq 8 (.mv (.t 1)),qq 9 (.lensl (.t 8)),qq 10 (.mv (ci 0))]) (.block 0 (.loop (.seq (.reg [qq 11 (.bin .lss (.t 10) (.t 9))]) (.seq (.cond (.t 11) .skip (.exit 0)) (.seq (.block 1 (.seq (.reg [qq 12 (.mv (.t 10)),qq 13 (.ixsl 5 (.t 8) (.t 10)),qq 14 (.load true 5 (.t 13)),qq 7 (.alloc 40 5 [(.slice none 0 0),(.bool false),e0,e0,(.int .i64 0)]),qq 6 (.mv (.t 12)),qn (.store 5 (.t 7) (.t 14))]) (.seq (.seq (.reg [qq 15 (.mv (.t 0)),qq 16 (.mv (.t 1)),qq 17 (.mv (.t 6)),qq 18 (.slsl 5 (.t 16) none (some (.t 17))),qq 19 (.call 28 [(.t 15),(.t 18)]),qq 20 (.un .not (.t 19))]) (.cond (.t 20) (.exit 0) .skip)) (.seq (.dreg [qu 21 (.mv (.t 0)),qu 22 (.mv (.t 1)),qu 23 (.mv (.t 6)),qu 24 (.slsl 5 (.t 22) none (some (.t 23))),qu 25 (.load true 5 (.t 7)),qu 26 (.call 36 [(.t 21),(.t 24),(.t 25)])]) (.cond (.t 26) (.reg [qq 27 (.mv (.t 5)),qq 28 (.mv (.t 6)),qq 29 (.bslice 3 1 1 [(.int .i64 0)] [(0,1,(.t 28))]),qq 30 (.app 3 1 8 (.t 27) (.t 29)),qq 5 (.mv (.t 30))]) .skip))))) (.reg [qq 31 (.bin .add (.t 10) (ci 1)),qq 10 (.mv (.t 31))]))))))) (.seq (.reg [qq 32 (.mv (.t 5)),qq 4 (.mv (.t 32))]) .ret))))
theorem tr14:trFun Tryz.prog 14=some ⟨33,[.t 4],c14⟩:=by kernel_rfl
set_option maxHeartbeats 16000000 in
theorem ok_red:SpecOK Tryz.prog 14 (nwL spRed):=by
 refine newL_run (env_cons ok_tog (env_cons ok_fol (env_nil _))) mixed tr14 (fun _ _ _ _=>spRed_mono) ?_
 intro args h N r hG hN
 unfold spRed at hG
 split at hG
 case h_2=>cases hG
 rename_i n sl
 split at hG
 case h_2=>cases hG
 rename_i cs l h1 h2
 split at hG
 case isFalse=>cases hG
 rename_i hs
 obtain ⟨hself,ok⟩:=hs
 cases hG
 have R:RowsS h sl l cs:=⟨h1,h2,hself⟩
 obtain ⟨hcl,a,c,rfl⟩:=R.len
 have hlen:=ok.len
 refine ⟨intNL_par _ _,by simp,?_⟩
 simp only [c14,G0,Nat.reduceAdd]
 simp only [↓R0,R1,simprocAttr,-Int.reduceAbs]
 refine lp_parts (fun q tm hp nx=>∃ (i M:Nat) (o:Value),q+i=l.length /\ tmget tm 0 = .int .i64 n /\ tmget tm 1 = .slice a l.length c /\ tmget tm 8 = .slice a l.length c /\ tmget tm 9 = .int .i64 l.length /\ tmget tm 10 = .int .i64 i /\ tmget tm 5=o /\ (redS n l i).2=false /\ OutI hp N M o (redS n l i).1 /\ (∀ q,q < N -> hget hp q=hget h q) /\ N <= M /\ nx=M+0) ?_ l.length
  ⟨0,N,.slice none 0 0,by omega,?_,?_,?_,?_,?_,?_,rfl,.inl ⟨rfl,rfl⟩,?_,Nat.le_refl _,rfl⟩
 rotate_left
 all_goals first | (simp only [↓R0,R1,simprocAttr,-Int.reduceAbs];done) | (simp only [↓R0,R1,simprocAttr,-Int.reduceAbs];rfl) | skip
 ·exact fun q _=>rfl
 rintro q tm hp nx ⟨i,M,o,hq,t0,t1,t8,t9,t10,t5,ns,hO,hh,hM,hnx⟩
 rw [hnx]
 clear hnx nx
 have wi:IntKind.i64.wrap ((i:Int)+1)=((i+1:Nat):Int):=by rw [i64_in _ (by omega)];omega
 by_cases ci:i < l.length
 case neg=>
  have ei:i=l.length:=by omega
  subst ei
  have ci':((l.length:Int) < (l.length:Int))=False:=eq_false (by omega)
  unfold redL intNL
  rcases hO with ⟨z,rfl⟩ | ⟨z,kk,x,rfl,h3,h4,h5⟩
  ·rw [if_pos z]
   simp only [↓R0,R1,simprocAttr,-Int.reduceAbs,t0,t1,t8,t9,t10,t5,ci',FinL,isEnd,resL,res1]
   refine ⟨fun i=>i,_,fun i hi=>absurd hi (Nat.not_lt_zero i),fun i j hi=>absurd hi (Nat.not_lt_zero i),rfl,rfl,fun i hi=>absurd hi (Nat.not_lt_zero i),hh⟩
  ·rw [if_neg z]
   simp only [↓R0,R1,simprocAttr,-Int.reduceAbs,t0,t1,t8,t9,t10,t5,ci',FinL,isEnd,resL,res1]
   refine ⟨fun _=>kk,_,fun i hi=>(by omega:N <= kk),fun i j (hi:i < 1) (hj:j < 1) _=>by omega,rfl,rfl,fun i hi=>⟨x,h3⟩,hh⟩
 have ci':((i:Int) < (l.length:Int))=True:=eq_true (by omega)
 have HL:∀ hp',ExtL N h hp' -> hle h hp':=fun hp' he q b e=>by rw [he q (hN _ _ e)];exact e
 have HLp:hle h hp:=HL hp hh
 obtain ⟨k,off,blk,ea,hb,hlc,hle,ecs⟩:=lay_pos h1 (by omega)
 subst ea
 have hbb:hget hp k=some blk:=HLp _ _ hb
 have nk:=hN _ _ hb
 have m5:off+i * 5+5 <= blk.cells.length:=by omega
 have inp:=R.inR ci
 have ec:(blk.cells.drop (off+i * 5)).take 5=eqC cs (i:Nat):=by
  unfold eqC
  rw [Int.toNat_natCast,ecs,List.drop_take,List.take_take,Nat.min_eq_left (by omega),List.drop_drop]
 have len5:=eqC_len inp
 have fok:(eqC cs (i:Nat)).all okCell=true:=eqC_all (selfsOK_cells hself)
 have fself:(eqC cs (i:Nat)).all (selfOK h)=true:=eqC_all hself
 have dc:=R.eq inp
 rw [Int.toNat_natCast] at dc
 generalize eqC cs (i:Nat)=C5 at *
 have tk5:C5.take 5=C5:=List.take_of_length_le (by omega)
 have st5:setR [.slice none 0 0,.bool false,.string ⟨⟨[]⟩⟩,.string ⟨⟨[]⟩⟩,.int .i64 0] 0 C5=C5:=by
  match C5,len5 with
  | [x1,x2,x3,x4,x5],_=>rfl
 have RT:=R.take (by omega) (Nat.le_of_lt ci)
 have mk:mkSl k off 5 c 0 i = .slice (some ⟨k,off,none⟩) i c:=by unfold mkSl;rw [if_neg (by omega),Nat.zero_mul,Nat.add_zero,Nat.sub_zero,Nat.sub_zero]
 have ic:((i:Int) <= (c:Int))=True:=eq_true (by omega)
 have ic2:(i <= c)=True:=eq_true (by omega)
 have tt:∀ hp',ExtL N h hp' -> spTog [.int .i64 n,.slice (some ⟨k,off,none⟩) i c] hp'=some (.bool (togL n (l.take i))):=fun hp' he=>tog_of (RT.mono (HL hp' he)).rows (ok.sys i ci)
 have tf:∀ hp',ExtL N h hp' -> spFol [.int .i64 n,.slice (some ⟨k,off,none⟩) i c,.agg ⟨C5⟩] hp'=some (.bool (folL n (l.take i) (eqAt l i))):=fun hp' he=>by
  have R':=RT.mono (HL hp' he)
  unfold spFol
  simp only [R'.lay,R'.rows,decEq_mono (HL hp' he) dc]
  exact if_pos ⟨R'.self,selfsOK_mono (HL hp' he) fself,ok.fol i ci⟩
 have xg:=extL_ge hM
 have xh:ExtL N h hp=True:=eq_true hh
 have M0:∀ j,(M+j=k)=False:=fun j=>eq_false (by omega)
 have rs:redS n l (i+1)=if togL n (l.take i)=false then ((redS n l i).1,true) else (if folL n (l.take i) (eqAt l i)=true then (redS n l i).1 ++ [i] else (redS n l i).1,false):=by
  show (if (redS n l i).2=true then _ else _)=_
  rw [if_neg (by rw [ns];simp)]
 have rl:=redS_len n l i
 cases tg:togL n (l.take i) with
 | false=>
  rw [tg] at tt
  rw [if_pos tg] at rs
  have fin:redL n l=(redS n l i).1:=by
   unfold redL
   have:=redS_stop (n:=n) (l:=l) (i:=i+1) (by rw [rs]) (l.length - (i+1))
   rw [show i+1+(l.length - (i+1))=l.length by omega,rs] at this
   rw [this]
  unfold intNL
  rw [fin]
  rcases hO with ⟨z,rfl⟩ | ⟨z,kk,x,rfl,h3,h4,h5⟩
  ·rw [if_pos z]
   simp only [↓R0,R1,simprocAttr,-Int.reduceAbs,rdS,t0,t1,t8,t9,t10,t5,ci,ci',hbb,m5,ec,tk5,st5,len5,fok,setR_length,mk,ic,ic2,hlc,tt,xg,xh,M0,Bool.not_false,FinL,isEnd,resL,res1]
   refine ⟨fun i=>i,_,fun i hi=>absurd hi (Nat.not_lt_zero i),fun i j hi=>absurd hi (Nat.not_lt_zero i),rfl,rfl,fun i hi=>absurd hi (Nat.not_lt_zero i),fun q hq=>?_⟩
   have nb:∀ d,(M+d=q)=False:=fun d=>eq_false (by omega)
   simp only [↓R0,R1,simprocAttr,-Int.reduceAbs,nb]
   exact hh q hq
  ·rw [if_neg z]
   simp only [↓R0,R1,simprocAttr,-Int.reduceAbs,rdS,t0,t1,t8,t9,t10,t5,ci,ci',hbb,m5,ec,tk5,st5,len5,fok,setR_length,mk,ic,ic2,hlc,tt,xg,xh,M0,Bool.not_false,FinL,isEnd,resL,res1]
   refine ⟨fun _=>kk,_,fun i hi=>(by omega:N <= kk),fun i j (hi:i < 1) (hj:j < 1) _=>by omega,rfl,rfl,fun i hi=>⟨x,?_⟩,fun q hq=>?_⟩
   ·have nb:∀ d,(M+d=kk)=False:=fun d=>eq_false (by omega)
    simp only [↓R0,R1,simprocAttr,-Int.reduceAbs,nb]
    exact h3
   ·have nb:∀ d,(M+d=q)=False:=fun d=>eq_false (by omega)
    simp only [↓R0,R1,simprocAttr,-Int.reduceAbs,nb]
    exact hh q hq
 | true=>
  rw [tg] at tt
  rw [if_neg (by rw [tg];simp)] at rs
  cases fg:folL n (l.take i) (eqAt l i) with
  | false=>
   rw [fg] at tf
   rw [if_neg (by rw [fg];simp)] at rs
   simp only [↓R0,R1,simprocAttr,-Int.reduceAbs,rdS,t0,t1,t8,t9,t10,t5,ci,ci',hbb,m5,ec,tk5,st5,len5,fok,setR_length,mk,ic,ic2,hlc,tt,tf,xg,xh,M0,wi,Bool.not_true]
   refine ⟨q - 1,by omega,i+1,M+1,o,by omega,rfl,rfl,by rw [rs],?_,fun q hq=>?_,by omega,rfl⟩
   ·rw [rs]
    rcases hO with ⟨z,rfl⟩ | ⟨z,kk,x,rfl,h3,h4,h5⟩
    ·exact .inl ⟨z,rfl⟩
    ·refine .inr ⟨z,kk,x,rfl,?_,h4,by omega⟩
     have nb:∀ d,(M+d=kk)=False:=fun d=>eq_false (by omega)
     simp only [↓R0,R1,simprocAttr,-Int.reduceAbs,nb]
     exact h3
   ·have nb:∀ d,(M+d=q)=False:=fun d=>eq_false (by omega)
    simp only [↓R0,R1,simprocAttr,-Int.reduceAbs,nb]
    exact hh q hq
  | true=>
   rw [fg] at tf
   rw [if_pos fg] at rs
   generalize (redS n l i).1=out at *
   rcases hO with ⟨z,rfl⟩ | ⟨z,kk,x,rfl,h3,h4,h5⟩
   ·simp only [↓R0,R1,simprocAttr,-Int.reduceAbs,rdS,t0,t1,t8,t9,t10,t5,ci,ci',hbb,m5,ec,tk5,st5,len5,fok,setR_length,mk,ic,ic2,hlc,tt,tf,xg,xh,M0,wi,Bool.not_true]
    refine ⟨q - 1,by omega,i+1,M+3,.slice (some ⟨M+2,0,none⟩) 1 1,by omega,rfl,rfl,by rw [rs],.inr ⟨by rw [rs];simp,M+2,false,by rw [rs,z];rfl,?_,by omega,by omega⟩,fun q hq=>?_,by omega,rfl⟩
    ·rw [rs,z]
     simp only [↓R0,R1,simprocAttr,-Int.reduceAbs]
     rfl
    ·have nb:∀ d,(M+d=q)=False:=fun d=>eq_false (by omega)
     simp only [↓R0,R1,simprocAttr,-Int.reduceAbs,nb]
     exact hh q hq
   ·have v1:∀ d,(M+d=kk)=False:=fun d=>eq_false (by omega)
    have v2:∀ d,(kk=M+d)=False:=fun d=>eq_false (by omega)
    have lI:(intC out).length=out.length:=by unfold intC;rw [List.length_map]
    have aI:intC out ++ [.int .i64 (i:Nat)]=intC (out ++ [i]):=by unfold intC;rw [List.map_append];rfl
    have nler:(out.length+1 <= out.length)=False:=eq_false (by omega)
    have ovr:((out.length+1) * 8 <= 140737488355328)=True:=eq_true (by omega)
    generalize intC out=IC0 at *
    generalize eIC:intC (out ++ [i])=IC1 at *
    simp only [↓R0,R1,simprocAttr,-Int.reduceAbs,rdS,t0,t1,t8,t9,t10,t5,ci,ci',hbb,m5,ec,tk5,st5,len5,fok,setR_length,mk,ic,ic2,hlc,tt,tf,xg,xh,M0,wi,h3,lI,aI,nler,ovr,v1,v2,Bool.not_true]
    refine ⟨q - 1,by omega,i+1,M+3,.slice (some ⟨M+2,0,none⟩) (out.length+1) (out.length+1),by omega,rfl,rfl,by rw [rs],.inr ⟨by rw [rs];simp,M+2,false,by rw [rs];simp,?_,by omega,by omega⟩,fun q hq=>?_,by omega,rfl⟩
    ·rw [rs,eIC]
     simp only [↓R0,R1,simprocAttr,-Int.reduceAbs,v1,v2]
    ·have nb:∀ d,(M+d=q)=False:=fun d=>eq_false (by omega)
     have nq:(kk=q)=False:=eq_false (by omega)
     simp only [↓R0,R1,simprocAttr,-Int.reduceAbs,nb,nq]
     exact hh q hq
theorem ext_rats {N:Nat} {h hp:Heap} {sl:Value} {l:List RQ} (hN:∀ k b,hget h k=some b -> k < N) (hx:listAt 3 dec1 h sl=some l) (he:ExtL N h hp):listAt 3 dec1 hp sl=some l:=listAt_mono (fun k b e=>by rw [he k (hN _ _ e)];exact e) (fun _ _ e=>e) hx
def sameTo (xs ys:Nat -> Rat) (i:Nat):Prop:=∀ j,j < i -> xs j=ys j
instance {xs ys:Nat -> Rat} {i:Nat}:Decidable (sameTo xs ys i):=by unfold sameTo;infer_instance
def allTo (l:List EqR) (vs:List RQ) (i:Nat):Prop:=∀ j,j < i -> holdsE (eqAt l j) vs=true
instance {l:List EqR} {vs:List RQ} {i:Nat}:Decidable (allTo l vs i):=by unfold allTo;infer_instance
end Go.Eng
end
section
namespace Go.Eng
def blkC (f:Nat -> List Value):Nat -> List Value
 | 0=>[]
 | n+1=>blkC f n ++ f n
theorem blkC_len {f:Nat -> List Value} {w:Nat}:∀ {n},(∀ i,i < n -> (f i).length=w) -> (blkC f n).length=n * w
 | 0,_=>by simp [blkC]
 | n+1,h=>by rw [blkC,List.length_append,blkC_len (n:=n) fun i hi=>h i (by omega),h n (by omega),Nat.succ_mul]
theorem blkC_congr {f g:Nat -> List Value}:∀ {n},(∀ i,i < n -> f i=g i) -> blkC f n=blkC g n
 | 0,_=>rfl
 | n+1,h=>by rw [blkC,blkC,blkC_congr (n:=n) fun i hi=>h i (by omega),h n (by omega)]
theorem blkC_at {f:Nat -> List Value} {w:Nat}:∀ {n j},(∀ i,i < n -> (f i).length=w) -> j < n -> ((blkC f n).drop (j * w)).take w=f j
 | 0,j,_,h=>absurd h (Nat.not_lt_zero j)
 | n+1,j,hf,h=>by
  have hl:=blkC_len (f:=f) (w:=w) (n:=n) fun i hi=>hf i (by omega)
  rw [blkC]
  by_cases e:j=n
  ·subst e
   rw [List.drop_append_of_le_length (by omega),List.drop_of_length_le (by omega),List.nil_append,List.take_of_length_le (by rw [hf j (by omega)];exact Nat.le_refl _)]
  ·have:j * w+w <= n * w:=by rw [<- Nat.succ_mul];exact Nat.mul_le_mul_right _ (by omega)
   rw [List.drop_append_of_le_length (by omega),List.take_append_of_le_length (by rw [List.length_drop];omega)]
   exact blkC_at (fun i hi=>hf i (by omega)) (by omega)
theorem blkC_set {f:Nat -> List Value} {w o:Nat} {xs:List Value} (ho:o+xs.length <= w):∀ {n j},(∀ i,i < n -> (f i).length=w) -> j < n -> setR (blkC f n) (j * w+o) xs=blkC (fun q=>if q=j then setR (f q) o xs else f q) n
 | 0,j,_,h=>absurd h (Nat.not_lt_zero j)
 | n+1,j,hf,h=>by
  have hl:=blkC_len (f:=f) (w:=w) (n:=n) fun i hi=>hf i (by omega)
  rw [blkC,blkC]
  by_cases e:j=n
  ·subst e
   have ec:blkC (fun q=>if q=j then setR (f q) o xs else f q) j=blkC f j:=blkC_congr fun q hq=>if_neg (by omega)
   rw [setR_app_right _ _ _ _ (by omega),hl,Nat.add_sub_cancel_left,if_pos rfl,ec]
  ·have:j * w+w <= n * w:=by rw [<- Nat.succ_mul];exact Nat.mul_le_mul_right _ (by omega)
   rw [setR_app_left _ _ _ _ (by omega),blkC_set ho (n:=n) (fun i hi=>hf i (by omega)) (by omega),if_neg (fun x=>e x.symm)]
theorem rows_blk {h:Heap} {k e s m:Nat} {x:Bool} {f:Nat -> List Value} {l:List EqR} (hb:hget h k=some ⟨e,s,x,blkC f m⟩) (hl:l.length=m) (hf:∀ i,i < m -> ∃ sl,f i=sl :: (eqAt l i).tl /\ listAt 3 dec1 h sl=some (eqAt l i).coef) :
  decRows h (.slice (some ⟨k,0,none⟩) m m)=some l:=by
 have h5:∀ i,i < m -> (f i).length=5:=fun i hi=>by
  obtain ⟨sl,e1,_⟩:=hf i hi
  rw [e1];rfl
 have hlen:=blkC_len h5
 unfold decRows listAt
 have la:lay 5 h (.slice (some ⟨k,0,none⟩) m m)=some (blkC f m):=by
  cases m with
  | zero=>
   show (match hget h k with | some blk=>if 0 <= 0 /\ 0+0 * 5 <= blk.cells.length then some ((blk.cells.drop 0).take (0 * 5)) else none | none=>none)=_
   rw [hb]
   rfl
  | succ d=>
   unfold lay
   simp only [hb]
   rw [if_pos ⟨by omega,by omega⟩,List.drop_zero,List.take_of_length_le (by omega)]
 rw [la]
 show many 5 (decEq h) m _=_
 refine many_some hl fun i p hp=>?_
 have hi:i < l.length:=(List.getElem?_eq_some_iff.1 hp).1
 rw [eqAt_some hi] at hp
 cases hp
 rw [blkC_at h5 (by omega)]
 obtain ⟨sl,e1,e2⟩:=hf i (by omega)
 rw [e1]
 exact decEq_of e2
end Go.Eng
end
section
set_option maxRecDepth 20000
namespace Go.Eng
open Go Go.Proofs Go.IntWalk
theorem rqs_set:∀ {l:List RQ} {k:Nat} (q:RQ),k < l.length -> setR (rqs l) (k * 3) q.cells=rqs (l.set k q)
 | [],k,q,h=>absurd h (Nat.not_lt_zero k)
 | x :: l,0,q,_=>rfl
 | x :: l,k+1,q,h=>by
  have ih:=rqs_set (l:=l) (k:=k) q (by simpa using h)
  show setR (x.cells ++ rqs l) _ _=x.cells ++ rqs (l.set k q)
  rw [setR_app_right _ _ _ _ (by show 3 <= _;omega),<- ih]
  congr 2
  show (k+1) * 3 - 3=_;omega
theorem rqs_list {h:Heap} {k e s:Nat} {x:Bool} {l:List RQ} {n:Nat} (hb:hget h k=some ⟨e,s,x,rqs l⟩) (hn:l.length=n) (h0:0 < n):listAt 3 dec1 h (.slice (some ⟨k,0,none⟩) n n)=some l:=by
 have hl:=rqs_len l
 obtain ⟨d,hd⟩:∃ d,n=d+1:=⟨n - 1,by omega⟩
 unfold listAt
 have la:lay 3 h (.slice (some ⟨k,0,none⟩) n n)=some (rqs l):=by
  unfold lay
  rw [hd]
  simp only [hb]
  rw [if_pos ⟨by omega,by omega⟩,<- hd,List.drop_zero,List.take_of_length_le (by omega)]
 rw [la]
 show many 3 dec1 n _=_
 refine many_some hn fun i q hq=>?_
 rw [rqs_at _ _ _ hq];rfl
def scF (ρ:Nat -> Nat) (n:Nat) (l:List EqR) (j:Nat):List Value:=.slice (some ⟨ρ j,0,none⟩) n n :: (eqAt l j).tl
def updN (ρ:Nat -> Nat) (i v:Nat):Nat -> Nat:=fun j=>if j=i then v else ρ j
theorem updN_eq (ρ:Nat -> Nat) (i v:Nat):updN ρ i v i=v:=if_pos rfl
theorem updN_ne {ρ:Nat -> Nat} {i v j:Nat} (h:j ≠ i):updN ρ i v j=ρ j:=if_neg h
def ScS (hp:Heap) (N M n:Nat) (l:List EqR) (i:Nat) (sl:Value):Prop:=
 (i=0 /\ sl = .slice none 0 0) \/ (0 < i /\ ∃ (kL:Nat) (x:Bool) (ρ:Nat -> Nat),sl = .slice (some ⟨kL,0,none⟩) i i /\ hget hp kL=some ⟨40,5,x,blkC (scF ρ n l) i⟩ /\ (N <= kL /\ kL < M) /\
  ∀ j,j < i -> (∃ y,hget hp (ρ j)=some ⟨38,3,y,rqs (eqAt l j).coef⟩) /\ N <= ρ j /\ ρ j < M /\ ρ j ≠ kL)
theorem ScS.push {hp hp':Heap} {N M M' n i kN rN:Nat} {l:List EqR} {x y:Bool} {ρ:Nat -> Nat}
  (old:∀ j,j < i -> (∃ y,hget hp (ρ j)=some ⟨38,3,y,rqs (eqAt l j).coef⟩) /\ N <= ρ j /\ ρ j < M) (keep:∀ j,j < i -> hget hp' (ρ j)=hget hp (ρ j))
  (hk:hget hp' kN=some ⟨40,5,x,blkC (scF ρ n l) i ++ (.slice (some ⟨rN,0,none⟩) n n :: (eqAt l i).tl)⟩) (hr:hget hp' rN=some ⟨38,3,y,rqs (eqAt l i).coef⟩) (h1:M <= kN) (h2:kN < M') (h3:M <= rN) (h4:rN < M') (h5:rN ≠ kN) (h6:N <= M) :
  ScS hp' N M' n l (i+1) (.slice (some ⟨kN,0,none⟩) (i+1) (i+1)):=by
 refine .inr ⟨by omega,kN,x,updN ρ i rN,rfl,?_,by omega,fun j hj=>?_⟩
 ·rw [hk]
  congr 2
  show _=blkC _ i ++ _
  congr 1
  ·exact blkC_congr fun j hj=>by unfold scF;rw [updN_ne (by omega)]
  ·unfold scF;rw [updN_eq]
 ·by_cases e:j=i
  ·subst e
   rw [updN_eq]
   exact ⟨⟨y,hr⟩,by omega,h4,h5⟩
  ·rw [updN_ne e]
   obtain ⟨⟨y,a⟩,b,c⟩:=old j (by omega)
   exact ⟨⟨y,by rw [keep j (by omega)];exact a⟩,b,by omega,by omega⟩
theorem ScS.rows {hp hp':Heap} {N M n:Nat} {l:List EqR} {sl:Value} (H:ScS hp N M n l l.length sl) (hn:0 < n) (hl:∀ e ∈ l,e.coef.length=n) (he:ExtL M hp hp'):decRows hp' sl=some l:=by
 rcases H with ⟨z,rfl⟩ | ⟨_,kL,x,ρ,rfl,hk,hb,hr⟩
 ·rw [List.eq_nil_of_length_eq_zero z];rfl
 ·refine rows_blk (f:=scF ρ n l) (by rw [he kL hb.2];exact hk) rfl fun i hi=>?_
  obtain ⟨⟨y,a⟩,b,c,_⟩:=hr i hi
  exact ⟨_,rfl,rqs_list (by rw [he _ c];exact a) (hl _ (eqAt_mem hi)) hn⟩
theorem ScS.sl {hp:Heap} {N M n i:Nat} {l:List EqR} {sl:Value} (H:ScS hp N M n l i sl):∃ a,sl = .slice a i i:=by
 rcases H with ⟨z,rfl⟩ | ⟨_,kL,x,ρ,rfl,_⟩
 ·exact ⟨none,by rw [z]⟩
 ·exact ⟨_,rfl⟩
theorem rv_ne {q:RQ} (h:(sv q.s q.n).sign ≠ 0):q.v ≠ 0:=by
 intro e
 unfold RQ.v rv at e
 rw [Rat.divInt_eq_div] at e
 have hd:((dv q.d:Int):Rat) ≠ 0:=fun x=>by have:=Rat.intCast_eq_zero_iff.1 x;have:=dv_pos q.d;omega
 have:=Rat.intCast_eq_zero_iff.1 (div_eq_zero hd e)
 rw [this] at h
 exact h rfl
def fq (f:Nat -> Rat) (n:Nat):List RQ:=(List.range n).map fun j=>RQ.of (f j)
theorem fq_len (f:Nat -> Rat) (n:Nat):(fq f n).length=n:=by unfold fq;rw [List.length_map,List.length_range]
theorem fq_succ (f:Nat -> Rat) (n:Nat):rqs (fq f n) ++ rE (f n)=rqs (fq f (n+1)):=by
 show rqs (fq f n) ++ (RQ.of (f n)).cells=_
 rw [rqs_app]
 unfold fq
 rw [List.range_succ,List.map_append];rfl
theorem fq_v {f:Nat -> Rat} {n j:Nat} (h:j < n):qsV (fq f n) j=f j:=by
 unfold qsV rqAt fq
 rw [List.getElem?_map,List.getElem?_range h]
 exact RQ.of_v _
theorem fq_mem {f:Nat -> Rat} {n:Nat} {q:RQ} (h:q ∈ fq f n):∃ j,j < n /\ q=RQ.of (f j):=by
 unfold fq at h
 obtain ⟨j,hj,rfl⟩:=List.mem_map.1 h
 exact ⟨j,List.mem_range.1 hj,rfl⟩
theorem lead_eq {n k:Nat} {f:Row} (h1:∀ j,j < k -> f j=0) (hk:k <= n) (h2:k < n -> f k ≠ 0):leadN n f=k:=by
 by_cases c:k < n
 ·exact leadN_of c h1 (h2 c)
 ·have:k=n:=by omega
  subst this
  rcases Nat.lt_or_ge (leadN k f) k with x | x
  ·exact absurd (h1 _ x) (leadN_ne x)
  ·have:=leadN_le k f;omega
theorem lead_congr {n:Nat} {f g:Row} (h:∀ j,j < n -> f j=g j):leadN n f=leadN n g:=
 lead_eq (fun j hj=>by rw [h j (by have:=leadN_le n g;omega)];exact leadN_z hj) (leadN_le n g) fun c=>by rw [h _ c];exact leadN_ne c
theorem clean_keep {n:Nat} {out:List Row} (H:PInv n out) (r:Row):∀ t,t <= out.length -> ∀ q,t <= q -> q < out.length -> cleanR n (out.take t) r (leadN n (rowAt out q))=r (leadN n (rowAt out q))
 | 0,_,q,_,_=>by rw [List.take_zero];rfl
 | t+1,ht,q,hq,hql=>by
  have e:out.take (t+1)=out.take t ++ [rowAt out t]:=by rw [List.take_add_one,rowAt_some (by omega)];rfl
  rw [e,cleanR,List.foldl_append]
  show clean1 n (cleanR n (out.take t) r) (rowAt out t) _=_
  unfold clean1
  rw [H.col q t hql (by omega) (by omega),Rat.zero_mul,clean_keep H r t (by omega) q (by omega) hql]
  grind
theorem clean_succ {n:Nat} {out:List Row} (r:Row) {t:Nat} (ht:t < out.length):cleanR n (out.take (t+1)) r=clean1 n (cleanR n (out.take t) r) (rowAt out t):=by
 have e:out.take (t+1)=out.take t ++ [rowAt out t]:=by rw [List.take_add_one,rowAt_some ht];rfl
 rw [e,cleanR,List.foldl_append];rfl
theorem clean_RB {n b B:Nat} {out:List Row} (H:PInv n out) {r:Row} (hr:∀ j,j <= n -> RB (r j) b) (ho:∀ p,p < out.length -> ∀ j,j <= n -> RB (rowAt out p j) B):∀ t,t <= out.length -> ∀ j,j <= n -> RB (cleanR n (out.take t) r j) (b+t * (b+B+1))
 | 0,_,j,hj=>by rw [List.take_zero];exact (hr j hj).le (by omega)
 | t+1,ht,j,hj=>by
  rw [clean_succ r (by omega)]
  unfold clean1
  rw [clean_keep H r t (by omega) t (Nat.le_refl _) (by omega)]
  refine (clean_RB H hr ho t (by omega) j hj).sub ((ho t (by omega) j hj).mul (hr _ (by have:=H.lt t (by omega);omega)) (Nat.le_refl _)) ?_
  rw [Nat.succ_mul];omega
def oB:Nat -> Nat
 | 0=>0
 | p+1=>2 * oB p+2 * (6+p * (7+oB p))+2
theorem oB_le:∀ p,p <= 8 -> oB p <= 119125776:=by
 intro p hp
 have:p=0 \/ p=1 \/ p=2 \/ p=3 \/ p=4 \/ p=5 \/ p=6 \/ p=7 \/ p=8:=by omega
 rcases this with rfl | rfl | rfl | rfl | rfl | rfl | rfl | rfl | rfl <;> decide
def canE (n:Nat) (f:Row):EqR:=⟨fq f n,RQ.of (f n),0⟩
theorem canE_v {n:Nat} {f:Row}:(canE n f).rhs.v=f n:=RQ.of_v _
theorem canE_q {n j:Nat} {f:Row} (h:j < n):qsV (canE n f).coef j=f j:=fq_v h
theorem fq_ok {f:Row} {n k:Nat} (h:∀ j,j < n -> RB (f j) k):∀ q ∈ fq f n,q.ok k:=fun q hq=>by
 obtain ⟨j,hj,rfl⟩:=fq_mem hq
 exact RQ.of_ok (h j hj)
theorem fq_congr {f g:Row} {n:Nat} (h:∀ j,j < n -> f j=g j):fq f n=fq g n:=by
 unfold fq
 exact List.map_congr_left fun j hj=>by rw [h j (List.mem_range.1 hj)]
theorem canE_congr {f g:Row} {n:Nat} (h:∀ j,j <= n -> f j=g j):canE n f=canE n g:=by
 unfold canE
 rw [fq_congr fun j hj=>h j (by omega),h n (Nat.le_refl _)]
def rowE (n:Nat) (e:EqR):Row:=fun j=>(e.at n j).v
theorem rowE_lt {n j:Nat} {e:EqR} (h:j < n):rowE n e j=qsV e.coef j:=by unfold rowE EqR.at;rw [if_pos h];rfl
theorem rowE_n {n:Nat} {e:EqR}:rowE n e n=e.rhs.v:=by unfold rowE EqR.at;rw [if_neg (by omega)]
theorem rowE_can {n j:Nat} {f:Row} (h:j <= n):rowE n (canE n f) j=f j:=by
 by_cases c:j < n
 ·rw [rowE_lt c,canE_q c]
 ·have:j=n:=by omega
  subst this
  rw [rowE_n,canE_v]
def eqNL (n:Nat) (f:Row):NewL:=
 if n=0 then ⟨0,fun _ => .agg ⟨.slice none 0 0 :: (canE n f).tl⟩,fun _=>0,fun _=>0,fun _ _=>[]⟩
 else ⟨1,fun σ => .agg ⟨.slice (some ⟨σ 0,0,none⟩) n n :: (canE n f).tl⟩,fun _=>38,fun _=>3,fun _ _=>rqs (fq f n)⟩
theorem eqNL_par (n:Nat) (f:Row) (h:Heap):(eqNL n f).Par h:=by
 unfold eqNL
 split
 ·exact ⟨fun β σ σ' _ _ => .agg _ _ (.cons _ _ _ _ (.base _ rfl) (VRs.of_base rfl)),fun β σ σ' _ _ i hi=>absurd hi (Nat.not_lt_zero i)⟩
 ·exact ⟨fun β σ σ' b1 _ => .agg _ _ (.cons _ _ _ _ (VR.sl (σ 0) 0 _ _ ⟨σ' 0,0,[]⟩ (b1 0 Nat.one_pos)) (VRs.of_base rfl)),fun β σ σ' _ _ i hi=>VRs.of_base (rqs_base _)⟩
def GrS (hp:Heap) (N M j:Nat) (f:Row) (s:Value):Prop:=
 (j=0 /\ s = .slice none 0 0) \/ (0 < j /\ ∃ (ka:Nat) (x:Bool),s = .slice (some ⟨ka,0,none⟩) j j /\ hget hp ka=some ⟨38,3,x,rqs (fq f j)⟩ /\ N <= ka /\ ka < M)
def spLead:List Value -> Heap -> Option Value
 | [sl],h=>match listAt 3 dec1 h sl with
  | some c=>if c.length <= 1000000 /\ ∀ q ∈ c,q.ok 8589934592 then some (.int .i64 (leadN c.length (qsV c))) else none
  | none=>none
 | _,_=>none
theorem lead_of {h:Heap} {sl:Value} {c:List RQ} (e:listAt 3 dec1 h sl=some c) (hl:c.length <= 1000000) (ho:∀ q ∈ c,q.ok 8589934592):spLead [sl] h=some (.int .i64 (leadN c.length (qsV c))):=by
 unfold spLead
 simp only [e]
 exact if_pos ⟨hl,ho⟩
theorem sg_v (q:RQ):((sv q.s q.n).sign=0)=(q.v=0):=by
 refine propext ⟨fun e=>Classical.byContradiction fun x=>?_,fun e=>Classical.byContradiction fun x=>rv_ne x e⟩
 have e0:sv q.s q.n=0:=Int.sign_eq_zero_iff_zero.1 e
 exact x (by unfold RQ.v rv;rw [e0];exact Rat.zero_divInt _)
theorem sgn3 {q:RQ} (h:q.ok 8589934592):spR3Sign [.agg ⟨q.cells⟩]=some (.int .i64 (sv q.s q.n).sign):=if_pos ⟨by have:=h.1;omega,by have:=h.2;omega⟩
def c95:ICode:=
 (.seq (.reg [qq 2 (.mv (ci 0))]) (.seq (.seq (.reg [qq 3 (.mv (ci 0))]) (.block 0 (.loop (.seq (.seq (.reg [qq 4 (.mv (.t 3)),qq 5 (.mv (.t 0)),qq 6 (.lensl (.t 5)),qq 7 (.bin .lss (.t 4) (.t 6))]) (.cond (.t 7) .skip (.exit 0))) (.seq (.block 1 (.seq (.reg [qq 10 (.mv (.t 0)),qq 11 (.mv (.t 3)),qq 12 (.ixsl 3 (.t 10) (.t 11)),qq 13 (.load true 3 (.t 12)),qq 14 (.call 96 [(.t 13)]),qq 15 (.bin .neq (.t 14) (ci 0))]) (.cond (.t 15) (.seq (.reg [qq 16 (.mv (.t 3)),qq 2 (.mv (.t 16))]) .ret) .skip))) (.reg [qq 8 (.mv (.t 3)),qq 9 (.bin .add (.t 8) (ci 1)),qq 3 (.mv (.t 9))])))))) (.seq (.reg [qq 17 (.mv (.t 0)),qq 18 (.lensl (.t 17)),qq 2 (.mv (.t 18))]) .ret)))
theorem tr95:trFun Tryz.prog 95=some ⟨19,[.t 2],c95⟩:=by kernel_rfl
set_option maxHeartbeats 8000000 in
theorem ok_lead24:SpecOK Tryz.prog 95 (rdS spLead):=by
 refine rd_run (env_cons ok_r3Sign (env_nil _)) mixed tr95 ?_ ?_
 ·intro args h h' v hle e
  unfold spLead at e ⊢
  split at e
  ·split at e
   ·rename_i l hb
    simp only [listAt_mono hle (fun _ _ e=>e) hb];exact e
   ·cases e
  ·cases e
 intro args v h N hG hN
 unfold spLead at hG
 split at hG
 case h_2=>cases hG
 rename_i sl
 split at hG
 case h_2=>cases hG
 rename_i l hx
 split at hG
 case isFalse=>cases hG
 rename_i hs
 obtain ⟨hl,ho⟩:=hs
 cases hG
 obtain ⟨a,c,rfl⟩:=listAt_sl hx
 refine ⟨by rfl,by simp,?_⟩
 have dn:∀ a b:Int,decide (a ≠ b)=!decide (a=b):=fun a b=>by by_cases h:a=b <;> simp [h]
 simp only [c95,G0,Nat.reduceAdd]
 simp only [↓R0,R1,simprocAttr,-Int.reduceAbs]
 refine lp_parts (fun q tm hp nx=>∃ (i:Nat),q+i=l.length /\ tmget tm 0 = .slice a l.length c /\ tmget tm 3 = .int .i64 i /\ (∀ j,j < i -> qsV l j=0) /\ hp=h /\ nx=N+0) ?_ l.length
  ⟨0,by omega,?_,?_,fun j hj=>absurd hj (Nat.not_lt_zero j),rfl,rfl⟩
 rotate_left
 all_goals first | (simp only [↓R0,R1,simprocAttr,-Int.reduceAbs];done) | (simp only [↓R0,R1,simprocAttr,-Int.reduceAbs];rfl) | skip
 rintro q tm hp nx ⟨i,hni,t0,t3,hz,rfl,hnx⟩
 rw [hnx]
 clear hnx nx
 by_cases c1:i < l.length
 case neg=>
  have e:i=l.length:=by omega
  subst e
  have c1':((l.length:Int) < (l.length:Int))=False:=eq_false (by omega)
  rw [lead_eq hz (Nat.le_refl _) (fun x=>absurd x (Nat.lt_irrefl _))]
  simp only [↓R0,R1,simprocAttr,-Int.reduceAbs,t0,t3,c1',Fin,isEnd,resL,res1]
  exact ⟨_,rfl,rfl,fun _ _=>trivial⟩
 have c1':((i:Int) < (l.length:Int))=True:=eq_true (by omega)
 have w1:IntKind.i64.wrap ((i:Int)+1)=((i+1:Nat):Int):=by rw [i64_in _ (by omega)];omega
 obtain ⟨k1,f1,B1,rfl,h1,q1,q2⟩:=rq_at hx c1
 have g1:(rqAt l i).cells.length=3:=rfl
 have g2:(rqAt l i).cells.all okCell=true:=rfl
 have g3:=sgn3 (ho _ (rqAt_mem c1))
 have g4:=sg_v (rqAt l i)
 have ev:(rqAt l i).v=qsV l i:=rfl
 rw [ev] at g4
 generalize (rqAt l i).cells=CA at *
 by_cases z:qsV l i=0
 ·have z':=g4.trans (eq_true z)
  simp only [↓R0,R1,simprocAttr,-Int.reduceAbs,t0,t3,c1,c1',h1,q1,q2,g1,g2,g3,dn,z',w1,Bool.not_true,Bool.not_false]
  refine ⟨q - 1,by omega,i+1,by omega,rfl,fun j hj=>?_⟩
  by_cases e:j=i
  ·rw [e];exact z
  ·exact hz j (by omega)
 ·have z':=g4.trans (eq_false z)
  rw [lead_eq hz (by omega) (fun _=>z)]
  simp only [↓R0,R1,simprocAttr,-Int.reduceAbs,t0,t3,c1,c1',h1,q1,q2,g1,g2,g3,dn,z',w1,Bool.not_true,Bool.not_false,Fin,isEnd,resL,res1]
  exact ⟨_,rfl,rfl,fun _ _=>trivial⟩
theorem mul3 {p q:RQ} (hp:p.ok 8589934592) (hq:q.ok 8589934592):spR3Mul [.agg ⟨p.cells⟩,.agg ⟨q.cells⟩]=some (.agg ⟨rE (p.v * q.v)⟩):=if_pos ⟨hp.1,hp.2,hq.1,hq.2⟩
theorem sub3 {p q:RQ} (hp:p.ok 8589934591) (hq:q.ok 8589934591):spR3Sub [.agg ⟨p.cells⟩,.agg ⟨q.cells⟩]=some (.agg ⟨rE (p.v - q.v)⟩):=if_pos ⟨by have:=hp.1;omega,by have:=hp.2;omega,by have:=hq.1;omega,by have:=hq.2;omega⟩
def eqOk (e:EqR) (k:Nat):Prop:=(∀ q ∈ e.coef,q.ok k) /\ e.rhs.ok k
instance {e:EqR} {k:Nat}:Decidable (eqOk e k):=by unfold eqOk;infer_instance
def timesF (e:EqR) (q:RQ):Row:=fun j=>rowE e.coef.length e j * q.v
def lessF (a b:EqR):Row:=fun j=>rowE a.coef.length a j - rowE a.coef.length b j
def spTimes:List Value -> Heap -> Option NewL
 | [.agg ⟨cs⟩,.agg ⟨qc⟩],h=>match decEq h cs,dec1 qc with
  | some e,some q=>if e.coef.length <= 100 /\ eqOk e 8589934592 /\ q.ok 8589934592 then some (eqNL e.coef.length (timesF e q)) else none
  | _,_=>none
 | _,_=>none
def spLess24:List Value -> Heap -> Option NewL
 | [.agg ⟨cs⟩,.agg ⟨ds⟩],h=>match decEq h cs,decEq h ds with
  | some a,some b=>if a.coef.length <= 100 /\ b.coef.length=a.coef.length /\ eqOk a 8589934591 /\ eqOk b 8589934591 then some (eqNL a.coef.length (lessF a b)) else none
  | _,_=>none
 | _,_=>none
def c94:ICode:=
 (.seq (.reg [qq 2 (.box 40 5 (.t 0)),qq 3 (.box 38 3 (.t 1)),qq 4 (.alloc 40 5 [(.slice none 0 0),(.bool false),e0,e0,(.int .i64 0)])]) (.seq (.reg [qq 7 (.faddr 1 (.t 2)),qq 8 (.load true 3 (.t 7)),qq 9 (.load true 3 (.t 3)),qq 10 (.call 22 [(.t 8),(.t 9)]),qq 11 (.build [(.slice none 0 0),(.bool false),e0,e0,(.int .i64 0)] [(1,3,(.t 10))]),qq 5 (.alloc 40 5 [(.slice none 0 0),(.bool false),e0,e0,(.int .i64 0)]),qn (.store 5 (.t 5) (.t 11))]) (.seq (.seq (.reg [qq 6 (.mv (ci 0))]) (.block 0 (.loop (.seq (.seq (.reg [qq 12 (.mv (.t 6)),qq 13 (.faddr 0 (.t 2)),qq 14 (.load false 1 (.t 13)),qq 15 (.lensl (.t 14)),qq 16 (.bin .lss (.t 12) (.t 15))]) (.cond (.t 16) .skip (.exit 0))) (.seq (.block 1 (.dreg [qu 19 (.faddr 0 (.t 5)),qu 20 (.load false 1 (.t 19)),qu 21 (.faddr 0 (.t 2)),qu 22 (.load false 1 (.t 21)),qu 23 (.mv (.t 6)),qu 24 (.ixsl 3 (.t 22) (.t 23)),qu 25 (.load true 3 (.t 24)),qu 26 (.load true 3 (.t 3)),qu 27 (.call 22 [(.t 25),(.t 26)]),qu 28 (.bslice 38 3 1 [(.bool false),e0,e0] [(0,3,(.t 27))]),qu 29 (.app 38 3 40 (.t 20) (.t 28)),qu 30 (.faddr 0 (.t 5)),qm (.store 1 (.t 30) (.t 29))])) (.reg [qq 17 (.mv (.t 6)),qq 18 (.bin .add (.t 17) (ci 1)),qq 6 (.mv (.t 18))])))))) (.seq (.reg [qq 31 (.load true 5 (.t 5)),qn (.store 5 (.t 4) (.t 31))]) .ret))))
theorem tr94:trFun Tryz.prog 94=some ⟨32,[.cell 4 true 5],c94⟩:=by kernel_rfl
set_option maxHeartbeats 16000000 in
theorem ok_times24:SpecOK Tryz.prog 94 (nwL spTimes):=by
 refine newL_run (env_cons ok_r3Mul (env_nil _)) mixed tr94 ?_ ?_
 ·intro args h h' r hle e
  unfold spTimes at e ⊢
  split at e
  ·split at e
   ·rename_i x y hb hc
    simp only [decEq_mono hle hb,hc];exact e
   ·cases e
  ·cases e
 intro args h N r hG hN
 unfold spTimes at hG
 split at hG
 case h_2=>cases hG
 rename_i cs ds
 split at hG
 case h_2=>cases hG
 rename_i e q hx hq
 split at hG
 case isFalse=>cases hG
 rename_i hs
 cases hG
 obtain ⟨sl,rfl,hl⟩:=decEq_eq hx
 obtain ⟨a,c,rfl⟩:=listAt_sl hl
 obtain ⟨n8,he,ho⟩:=hs
 have eq:=dec1_cells hq
 subst eq
 refine ⟨eqNL_par _ _ _,by simp,?_⟩
 generalize hF:timesF e q=F at *
 generalize hn:e.coef.length=n at *
 have e5l:(Value.slice a n c :: e.tl).length=5:=rfl
 have e5o:(Value.slice a n c :: e.tl).all okCell=true:=rfl
 have e50:(Value.slice a n c :: e.tl)[0]?=some (.slice a n c):=rfl
 have e51:((Value.slice a n c :: e.tl).drop 1).take 3=e.rhs.cells:=rfl
 have r1:e.rhs.cells.length=3:=rfl
 have r2:e.rhs.cells.all okCell=true:=rfl
 have d5l:q.cells.length=3:=rfl
 have d5o:q.cells.all okCell=true:=rfl
 have d5t:q.cells.take 3=q.cells:=rfl
 have rc:spR3Mul [.agg ⟨e.rhs.cells⟩,.agg ⟨q.cells⟩]=some (.agg ⟨rE (F n)⟩):=by
  rw [mul3 he.2 ho,<- hF]
  unfold timesF
  rw [hn,rowE_n]
 have opc:∀ j,j < n -> spR3Mul [.agg ⟨(rqAt e.coef j).cells⟩,.agg ⟨q.cells⟩]=some (.agg ⟨rE (F j)⟩):=fun j hj=>by
  rw [mul3 (he.1 _ (rqAt_mem (by omega))) ho,<- hF]
  unfold timesF
  rw [hn,rowE_lt hj];rfl
 have gE:∀ v:Rat,(rE v).length=3:=fun _=>rfl
 have gEo:∀ v:Rat,(rE v).all okCell=true:=fun _=>rfl
 have gEt:∀ v:Rat,(rE v).take 3=rE v:=fun _=>rfl
 have gEs:∀ v:Rat,setR [.bool false,.string ⟨⟨[]⟩⟩,.string ⟨⟨[]⟩⟩] 0 (rE v)=rE v:=fun _=>rfl
 have st:setR [.slice none 0 0,.bool false,.string ⟨⟨[]⟩⟩,.string ⟨⟨[]⟩⟩,.int .i64 0] 1 (rE (F n))=Value.slice none 0 0 :: (canE n F).tl:=rfl
 have s5:∀ s:Value,(s :: (canE n F).tl).length=5:=fun _=>rfl
 have s5o:∀ (a:Option Addr) (m k:Nat),(Value.slice a m k :: (canE n F).tl).all okCell=true:=fun _ _ _=>rfl
 have s5s:∀ s:Value,setR [.slice none 0 0,.bool false,.string ⟨⟨[]⟩⟩,.string ⟨⟨[]⟩⟩,.int .i64 0] 0 (s :: (canE n F).tl)=s :: (canE n F).tl:=fun _=>rfl
 have s5t:∀ s:Value,(s :: (canE n F).tl).take 5=s :: (canE n F).tl:=fun _=>rfl
 unfold eqNL
 generalize (canE n F).tl=ST at *
 generalize Value.slice a n c :: e.tl=C5 at *
 generalize e.rhs.cells=RH at *
 generalize q.cells=QC at *
 have p0:(N=N+1)=False:=eq_false (by omega)
 have p1:(N=N+2)=False:=eq_false (by omega)
 have p2:(N=N+3)=False:=eq_false (by omega)
 have p3:(N+1=N)=False:=eq_false (by omega)
 have p4:(N+1=N+2)=False:=eq_false (by omega)
 have p5:(N+1=N+3)=False:=eq_false (by omega)
 have p6:(N+2=N)=False:=eq_false (by omega)
 have p7:(N+2=N+1)=False:=eq_false (by omega)
 have p8:(N+2=N+3)=False:=eq_false (by omega)
 have p9:(N+3=N)=False:=eq_false (by omega)
 have p10:(N+3=N+1)=False:=eq_false (by omega)
 have p11:(N+3=N+2)=False:=eq_false (by omega)
 have gN:(N+0=N)=True:=eq_true rfl
 simp only [c94,G0,Nat.reduceAdd]
 simp only [↓R0,R1,simprocAttr,-Int.reduceAbs,e5l,e5o,e50,e51,r1,r2,d5l,d5o,d5t,rc,gE,gEo,st,s5,s5o,s5s,p0,p1,p2,p3,p4,p5,p6,p7,p8,p9,p10,p11]
 refine lp_parts (fun c' tm hp nx=>∃ (j M:Nat) (s:Value),c'+j=n /\ tmget tm 2 = .pointer (some ⟨N,0,none⟩) /\ tmget tm 3 = .pointer (some ⟨N+1,0,none⟩) /\ tmget tm 4 = .pointer (some ⟨N+2,0,none⟩) /\ tmget tm 5 = .pointer (some ⟨N+3,0,none⟩) /\ tmget tm 6 = .int .i64 j /\
   (∃ x,hget hp N=some ⟨40,5,x,C5⟩) /\ (∃ x,hget hp (N+1)=some ⟨38,3,x,QC⟩) /\ (∃ x,hget hp (N+2)=some ⟨40,5,x,[.slice none 0 0,.bool false,.string ⟨⟨[]⟩⟩,.string ⟨⟨[]⟩⟩,.int .i64 0]⟩) /\ (∃ x,hget hp (N+3)=some ⟨40,5,x,s :: ST⟩) /\ GrS hp (N+4) M j F s /\ ExtL N h hp /\ N+4 <= M /\ nx=M+0) ?_ n
  ⟨0,N+4,.slice none 0 0,by omega,?_,?_,?_,?_,?_,?_,?_,?_,?_,.inl ⟨rfl,rfl⟩,?_,Nat.le_refl _,rfl⟩
 rotate_left
 all_goals first | (simp only [↓R0,R1,simprocAttr,-Int.reduceAbs];done) | (simp only [↓R0,R1,simprocAttr,-Int.reduceAbs];rfl) | (refine ⟨true,?_⟩;simp only [↓R0,R1,simprocAttr,-Int.reduceAbs,gN,p0,p1,p2,p3,p4,p5,p6,p7,p8,p9,p10,p11];done) | skip
 ·intro q hq
  have nb:∀ d,(N+d=q)=False:=fun d=>eq_false (by omega)
  simp only [↓R0,R1,simprocAttr,-Int.reduceAbs,nb]
 rintro c' tm hp nx ⟨j,M,s,hcj,t2,t3,t4,t5,t6,⟨x1,bA⟩,⟨x2,bB⟩,⟨x3,bR⟩,⟨x4,bS⟩,hG,hh,hM,hnx⟩
 rw [hnx]
 clear hnx nx
 have nbq:∀ q,q < N -> ∀ d,(M+d=q)=False:=fun q hq d=>eq_false (by omega)
 by_cases c1:j < n
 case neg=>
  have ej:j=n:=by omega
  rw [ej] at hG t6
  have c1':((n:Int) < (n:Int))=False:=eq_false (by omega)
  rcases hG with ⟨z,rfl⟩ | ⟨z,ka,y,rfl,bk,k1,k2⟩
  ·rw [if_pos z]
   simp only [↓R0,R1,simprocAttr,-Int.reduceAbs,t2,t3,t4,t5,t6,c1',bA,bB,bR,bS,e5l,e50,d5l,s5,s5o,s5s,s5t,p0,p1,p2,p3,p4,p5,p6,p7,p8,p9,p10,p11,FinL,isEnd,resL,res1]
   refine ⟨fun i=>i,_,fun i hi=>absurd hi (Nat.not_lt_zero i),fun i j hi=>absurd hi (Nat.not_lt_zero i),rfl,rfl,fun i hi=>absurd hi (Nat.not_lt_zero i),fun q hq=>?_⟩
   have nb:∀ d,(N+d=q)=False:=fun d=>eq_false (by omega)
   simp only [↓R0,R1,simprocAttr,-Int.reduceAbs,nb]
   exact hh q hq
  ·rw [if_neg (by omega)]
   have y1:(N+2=ka)=False:=eq_false (by omega)
   simp only [↓R0,R1,simprocAttr,-Int.reduceAbs,t2,t3,t4,t5,t6,c1',bA,bB,bR,bS,e5l,e50,d5l,s5,s5o,s5s,s5t,p0,p1,p2,p3,p4,p5,p6,p7,p8,p9,p10,p11,FinL,isEnd,resL,res1]
   refine ⟨fun _=>ka,_,fun i hi=>(by omega:N <= ka),fun i j (hi:i < 1) (hj:j < 1) _=>by omega,rfl,rfl,fun i hi=>⟨y,?_⟩,fun q hq=>?_⟩
   ·simp only [↓R0,R1,simprocAttr,-Int.reduceAbs,y1]
    exact bk
   ·have nb:∀ d,(N+d=q)=False:=fun d=>eq_false (by omega)
    simp only [↓R0,R1,simprocAttr,-Int.reduceAbs,nb]
    exact hh q hq
 have c1':((j:Int) < (n:Int))=True:=eq_true (by omega)
 have w1:IntKind.i64.wrap ((j:Int)+1)=((j+1:Nat):Int):=by rw [i64_in _ (by omega)];omega
 obtain ⟨k1,f1,B1,rfl,h1,q1,q2⟩:=rq_at hl c1
 have l1:=hN _ _ h1
 have b1:hget hp k1=some B1:=by rw [hh k1 l1];exact h1
 have n1:=nbq k1 l1
 have u1:(rqAt e.coef j).cells.length=3:=rfl
 have u2:(rqAt e.coef j).cells.all okCell=true:=rfl
 have oj:=opc j c1
 generalize (rqAt e.coef j).cells=PE at *
 have gs:=gEs (F j)
 have fa:=fq_succ F j
 have lfa:(rqs (fq F j)).length=j * 3:=by rw [rqs_len,fq_len]
 have ofa:=rqs_ok (fq F j)
 have dj1:((j+1) * 40 <= 140737488355328)=True:=eq_true (by omega)
 have dj2:(j+1 <= j)=False:=eq_false (by omega)
 have v0:∀ d,(M+d=N)=False:=fun d=>eq_false (by omega)
 have v1:∀ d,(N=M+d)=False:=fun d=>eq_false (by omega)
 have v2:(N=k1)=False:=eq_false (by omega)
 have v3:∀ d,(M+d=N+1)=False:=fun d=>eq_false (by omega)
 have v4:∀ d,(N+1=M+d)=False:=fun d=>eq_false (by omega)
 have v5:(N+1=k1)=False:=eq_false (by omega)
 have v6:∀ d,(M+d=N+2)=False:=fun d=>eq_false (by omega)
 have v7:∀ d,(N+2=M+d)=False:=fun d=>eq_false (by omega)
 have v8:(N+2=k1)=False:=eq_false (by omega)
 have v9:∀ d,(M+d=N+3)=False:=fun d=>eq_false (by omega)
 have v10:∀ d,(N+3=M+d)=False:=fun d=>eq_false (by omega)
 have v11:(N+3=k1)=False:=eq_false (by omega)
 rcases hG with ⟨z,rfl⟩ | ⟨z,ka,y,rfl,bk,hk1,hk2⟩
 ·simp only [↓R0,R1,simprocAttr,-Int.reduceAbs,t2,t3,t4,t5,t6,c1,c1',bA,bB,bR,bS,b1,n1,q1,q2,u1,u2,e5l,e50,d5l,d5o,d5t,oj,gE,gEo,gEt,gs,s5,s5o,s5s,w1,p0,p1,p2,p3,p4,p5,p6,p7,p8,p9,p10,p11,v0,v1,v2,v3,v4,v5,v6,v7,v8,v9,v10,v11,Nat.zero_add,Nat.zero_mul,List.nil_append]
  have ea:rqs (fq F (j+1))=rE (F j):=by subst z;exact (fq_succ F 0).symm
  refine ⟨c' - 1,by omega,j+1,M+2,.slice (some ⟨M+1,0,none⟩) 1 1,by omega,rfl,⟨_,rfl⟩,⟨_,rfl⟩,⟨_,rfl⟩,⟨_,rfl⟩,.inr ⟨by omega,M+1,false,by rw [z],?_,by omega,by omega⟩,fun q hq=>?_,by omega,rfl⟩
  ·rw [ea];simp only [↓R0,R1,simprocAttr,-Int.reduceAbs,v0,v1,v2,v3,v4,v5,v6,v7,v8,v9,v10,v11]
  ·have nb:=nbq q hq
   have nc:∀ d,(N+d=q)=False:=fun d=>eq_false (by omega)
   simp only [↓R0,R1,simprocAttr,-Int.reduceAbs,nb,nc]
   exact hh q hq
 ·have x0:∀ d,(M+d=ka)=False:=fun d=>eq_false (by omega)
  have x1:∀ d,(ka=M+d)=False:=fun d=>eq_false (by omega)
  have x2:(ka=N)=False:=eq_false (by omega)
  have x3:(ka=N+1)=False:=eq_false (by omega)
  have x4:(ka=N+2)=False:=eq_false (by omega)
  have x5:(ka=N+3)=False:=eq_false (by omega)
  have x6:(N=ka)=False:=eq_false (by omega)
  have x7:∀ d,(N+d+4=ka)=(N+d+4=ka):=fun _=>rfl
  have x8:(ka=k1)=False:=eq_false (by omega)
  have y3:(N+3=ka)=False:=eq_false (by omega)
  simp only [↓R0,R1,simprocAttr,-Int.reduceAbs,t2,t3,t4,t5,t6,c1,c1',bA,bB,bR,bS,b1,n1,q1,q2,u1,u2,e5l,e50,d5l,d5o,d5t,oj,gE,gEo,gEt,gs,s5,s5o,s5s,w1,p0,p1,p2,p3,p4,p5,p6,p7,p8,p9,p10,p11,v0,v1,v2,v3,v4,v5,v6,v7,v8,v9,v10,v11,bk,fa,lfa,ofa,dj1,dj2,x0,x1,x2,x3,x4,x5,x6,x8,y3,Nat.zero_add,Nat.zero_mul,List.nil_append]
  refine ⟨c' - 1,by omega,j+1,M+2,.slice (some ⟨M+1,0,none⟩) (j+1) (j+1),by omega,rfl,⟨_,rfl⟩,⟨_,rfl⟩,⟨_,rfl⟩,⟨_,rfl⟩,.inr ⟨by omega,M+1,false,rfl,?_,by omega,by omega⟩,fun q hq=>?_,by omega,rfl⟩
  ·simp only [↓R0,R1,simprocAttr,-Int.reduceAbs,v0,v1,v2,v3,v4,v5,v6,v7,v8,v9,v10,v11]
  ·have nb:=nbq q hq
   have nc:∀ d,(N+d=q)=False:=fun d=>eq_false (by omega)
   have nd:(ka=q)=False:=eq_false (by omega)
   simp only [↓R0,R1,simprocAttr,-Int.reduceAbs,nb,nc,nd]
   exact hh q hq
def c98:ICode:=
 (.seq (.reg [qq 2 (.box 40 5 (.t 0)),qq 3 (.box 40 5 (.t 1)),qq 4 (.alloc 40 5 [(.slice none 0 0),(.bool false),e0,e0,(.int .i64 0)])]) (.seq (.reg [qq 7 (.faddr 1 (.t 2)),qq 8 (.load true 3 (.t 7)),qq 9 (.faddr 1 (.t 3)),qq 10 (.load true 3 (.t 9)),qq 11 (.call 117 [(.t 8),(.t 10)]),qq 12 (.build [(.slice none 0 0),(.bool false),e0,e0,(.int .i64 0)] [(1,3,(.t 11))]),qq 5 (.alloc 40 5 [(.slice none 0 0),(.bool false),e0,e0,(.int .i64 0)]),qn (.store 5 (.t 5) (.t 12))]) (.seq (.seq (.reg [qq 6 (.mv (ci 0))]) (.block 0 (.loop (.seq (.seq (.reg [qq 13 (.mv (.t 6)),qq 14 (.faddr 0 (.t 2)),qq 15 (.load false 1 (.t 14)),qq 16 (.lensl (.t 15)),qq 17 (.bin .lss (.t 13) (.t 16))]) (.cond (.t 17) .skip (.exit 0))) (.seq (.block 1 (.dreg [qu 20 (.faddr 0 (.t 5)),qu 21 (.load false 1 (.t 20)),qu 22 (.faddr 0 (.t 2)),qu 23 (.load false 1 (.t 22)),qu 24 (.mv (.t 6)),qu 25 (.ixsl 3 (.t 23) (.t 24)),qu 26 (.load true 3 (.t 25)),qu 27 (.faddr 0 (.t 3)),qu 28 (.load false 1 (.t 27)),qu 29 (.mv (.t 6)),qu 30 (.ixsl 3 (.t 28) (.t 29)),qu 31 (.load true 3 (.t 30)),qu 32 (.call 117 [(.t 26),(.t 31)]),qu 33 (.bslice 38 3 1 [(.bool false),e0,e0] [(0,3,(.t 32))]),qu 34 (.app 38 3 40 (.t 21) (.t 33)),qu 35 (.faddr 0 (.t 5)),qm (.store 1 (.t 35) (.t 34))])) (.reg [qq 18 (.mv (.t 6)),qq 19 (.bin .add (.t 18) (ci 1)),qq 6 (.mv (.t 19))])))))) (.seq (.reg [qq 36 (.load true 5 (.t 5)),qn (.store 5 (.t 4) (.t 36))]) .ret))))
theorem tr98:trFun Tryz.prog 98=some ⟨37,[.cell 4 true 5],c98⟩:=by kernel_rfl
set_option maxHeartbeats 16000000 in
theorem ok_less24:SpecOK Tryz.prog 98 (nwL spLess24):=by
 refine newL_run (env_cons ok_r3Sub (env_nil _)) mixed tr98 ?_ ?_
 ·intro args h h' r hle e
  unfold spLess24 at e ⊢
  split at e
  ·split at e
   ·rename_i x y hb hc
    simp only [decEq_mono hle hb,decEq_mono hle hc];exact e
   ·cases e
  ·cases e
 intro args h N r hG hN
 unfold spLess24 at hG
 split at hG
 case h_2=>cases hG
 rename_i cs ds
 split at hG
 case h_2=>cases hG
 rename_i e q hx hq
 split at hG
 case isFalse=>cases hG
 rename_i hs
 cases hG
 obtain ⟨sl,rfl,hl⟩:=decEq_eq hx
 obtain ⟨a,c,rfl⟩:=listAt_sl hl
 obtain ⟨n8,hqn,he,ho⟩:=hs
 obtain ⟨sl2,rfl,hl2⟩:=decEq_eq hq
 obtain ⟨a2,c2,rfl⟩:=listAt_sl hl2
 rw [hqn] at hl2 ⊢
 refine ⟨eqNL_par _ _ _,by simp,?_⟩
 generalize hF:lessF e q=F at *
 generalize hn:e.coef.length=n at *
 have e5l:(Value.slice a n c :: e.tl).length=5:=rfl
 have e5o:(Value.slice a n c :: e.tl).all okCell=true:=rfl
 have e50:(Value.slice a n c :: e.tl)[0]?=some (.slice a n c):=rfl
 have e51:((Value.slice a n c :: e.tl).drop 1).take 3=e.rhs.cells:=rfl
 have r1:e.rhs.cells.length=3:=rfl
 have r2:e.rhs.cells.all okCell=true:=rfl
 have d5l:(Value.slice a2 n c2 :: q.tl).length=5:=rfl
 have d5o:(Value.slice a2 n c2 :: q.tl).all okCell=true:=rfl
 have d50:(Value.slice a2 n c2 :: q.tl)[0]?=some (.slice a2 n c2):=rfl
 have d51:((Value.slice a2 n c2 :: q.tl).drop 1).take 3=q.rhs.cells:=rfl
 have r3:q.rhs.cells.length=3:=rfl
 have r4:q.rhs.cells.all okCell=true:=rfl
 have rc:spR3Sub [.agg ⟨e.rhs.cells⟩,.agg ⟨q.rhs.cells⟩]=some (.agg ⟨rE (F n)⟩):=by
  rw [sub3 he.2 ho.2,<- hF]
  unfold lessF
  rw [hn,rowE_n,rowE_n]
 have opc:∀ j,j < n -> spR3Sub [.agg ⟨(rqAt e.coef j).cells⟩,.agg ⟨(rqAt q.coef j).cells⟩]=some (.agg ⟨rE (F j)⟩):=fun j hj=>by
  rw [sub3 (he.1 _ (rqAt_mem (by omega))) (ho.1 _ (rqAt_mem (by omega))),<- hF]
  unfold lessF
  rw [hn,rowE_lt hj,rowE_lt hj];rfl
 have gE:∀ v:Rat,(rE v).length=3:=fun _=>rfl
 have gEo:∀ v:Rat,(rE v).all okCell=true:=fun _=>rfl
 have gEt:∀ v:Rat,(rE v).take 3=rE v:=fun _=>rfl
 have gEs:∀ v:Rat,setR [.bool false,.string ⟨⟨[]⟩⟩,.string ⟨⟨[]⟩⟩] 0 (rE v)=rE v:=fun _=>rfl
 have st:setR [.slice none 0 0,.bool false,.string ⟨⟨[]⟩⟩,.string ⟨⟨[]⟩⟩,.int .i64 0] 1 (rE (F n))=Value.slice none 0 0 :: (canE n F).tl:=rfl
 have s5:∀ s:Value,(s :: (canE n F).tl).length=5:=fun _=>rfl
 have s5o:∀ (a:Option Addr) (m k:Nat),(Value.slice a m k :: (canE n F).tl).all okCell=true:=fun _ _ _=>rfl
 have s5s:∀ s:Value,setR [.slice none 0 0,.bool false,.string ⟨⟨[]⟩⟩,.string ⟨⟨[]⟩⟩,.int .i64 0] 0 (s :: (canE n F).tl)=s :: (canE n F).tl:=fun _=>rfl
 have s5t:∀ s:Value,(s :: (canE n F).tl).take 5=s :: (canE n F).tl:=fun _=>rfl
 unfold eqNL
 generalize (canE n F).tl=ST at *
 generalize Value.slice a n c :: e.tl=C5 at *
 generalize e.rhs.cells=RH at *
 generalize Value.slice a2 n c2 :: q.tl=D5 at *
 generalize q.rhs.cells=RD at *
 have p0:(N=N+1)=False:=eq_false (by omega)
 have p1:(N=N+2)=False:=eq_false (by omega)
 have p2:(N=N+3)=False:=eq_false (by omega)
 have p3:(N+1=N)=False:=eq_false (by omega)
 have p4:(N+1=N+2)=False:=eq_false (by omega)
 have p5:(N+1=N+3)=False:=eq_false (by omega)
 have p6:(N+2=N)=False:=eq_false (by omega)
 have p7:(N+2=N+1)=False:=eq_false (by omega)
 have p8:(N+2=N+3)=False:=eq_false (by omega)
 have p9:(N+3=N)=False:=eq_false (by omega)
 have p10:(N+3=N+1)=False:=eq_false (by omega)
 have p11:(N+3=N+2)=False:=eq_false (by omega)
 have gN:(N+0=N)=True:=eq_true rfl
 simp only [c98,G0,Nat.reduceAdd]
 simp only [↓R0,R1,simprocAttr,-Int.reduceAbs,e5l,e5o,e50,e51,r1,r2,d5l,d5o,d50,d51,r3,r4,rc,gE,gEo,st,s5,s5o,s5s,p0,p1,p2,p3,p4,p5,p6,p7,p8,p9,p10,p11]
 refine lp_parts (fun c' tm hp nx=>∃ (j M:Nat) (s:Value),c'+j=n /\ tmget tm 2 = .pointer (some ⟨N,0,none⟩) /\ tmget tm 3 = .pointer (some ⟨N+1,0,none⟩) /\ tmget tm 4 = .pointer (some ⟨N+2,0,none⟩) /\ tmget tm 5 = .pointer (some ⟨N+3,0,none⟩) /\ tmget tm 6 = .int .i64 j /\
   (∃ x,hget hp N=some ⟨40,5,x,C5⟩) /\ (∃ x,hget hp (N+1)=some ⟨40,5,x,D5⟩) /\ (∃ x,hget hp (N+2)=some ⟨40,5,x,[.slice none 0 0,.bool false,.string ⟨⟨[]⟩⟩,.string ⟨⟨[]⟩⟩,.int .i64 0]⟩) /\ (∃ x,hget hp (N+3)=some ⟨40,5,x,s :: ST⟩) /\ GrS hp (N+4) M j F s /\ ExtL N h hp /\ N+4 <= M /\ nx=M+0) ?_ n
  ⟨0,N+4,.slice none 0 0,by omega,?_,?_,?_,?_,?_,?_,?_,?_,?_,.inl ⟨rfl,rfl⟩,?_,Nat.le_refl _,rfl⟩
 rotate_left
 all_goals first | (simp only [↓R0,R1,simprocAttr,-Int.reduceAbs];done) | (simp only [↓R0,R1,simprocAttr,-Int.reduceAbs];rfl) | (refine ⟨true,?_⟩;simp only [↓R0,R1,simprocAttr,-Int.reduceAbs,gN,p0,p1,p2,p3,p4,p5,p6,p7,p8,p9,p10,p11];done) | skip
 ·intro q hq
  have nb:∀ d,(N+d=q)=False:=fun d=>eq_false (by omega)
  simp only [↓R0,R1,simprocAttr,-Int.reduceAbs,nb]
 rintro c' tm hp nx ⟨j,M,s,hcj,t2,t3,t4,t5,t6,⟨x1,bA⟩,⟨x2,bB⟩,⟨x3,bR⟩,⟨x4,bS⟩,hG,hh,hM,hnx⟩
 rw [hnx]
 clear hnx nx
 have nbq:∀ q,q < N -> ∀ d,(M+d=q)=False:=fun q hq d=>eq_false (by omega)
 by_cases c1:j < n
 case neg=>
  have ej:j=n:=by omega
  rw [ej] at hG t6
  have c1':((n:Int) < (n:Int))=False:=eq_false (by omega)
  rcases hG with ⟨z,rfl⟩ | ⟨z,ka,y,rfl,bk,k1,k2⟩
  ·rw [if_pos z]
   simp only [↓R0,R1,simprocAttr,-Int.reduceAbs,t2,t3,t4,t5,t6,c1',bA,bB,bR,bS,e5l,e50,d5l,s5,s5o,s5s,s5t,p0,p1,p2,p3,p4,p5,p6,p7,p8,p9,p10,p11,FinL,isEnd,resL,res1]
   refine ⟨fun i=>i,_,fun i hi=>absurd hi (Nat.not_lt_zero i),fun i j hi=>absurd hi (Nat.not_lt_zero i),rfl,rfl,fun i hi=>absurd hi (Nat.not_lt_zero i),fun q hq=>?_⟩
   have nb:∀ d,(N+d=q)=False:=fun d=>eq_false (by omega)
   simp only [↓R0,R1,simprocAttr,-Int.reduceAbs,nb]
   exact hh q hq
  ·rw [if_neg (by omega)]
   have y1:(N+2=ka)=False:=eq_false (by omega)
   simp only [↓R0,R1,simprocAttr,-Int.reduceAbs,t2,t3,t4,t5,t6,c1',bA,bB,bR,bS,e5l,e50,d5l,s5,s5o,s5s,s5t,p0,p1,p2,p3,p4,p5,p6,p7,p8,p9,p10,p11,FinL,isEnd,resL,res1]
   refine ⟨fun _=>ka,_,fun i hi=>(by omega:N <= ka),fun i j (hi:i < 1) (hj:j < 1) _=>by omega,rfl,rfl,fun i hi=>⟨y,?_⟩,fun q hq=>?_⟩
   ·simp only [↓R0,R1,simprocAttr,-Int.reduceAbs,y1]
    exact bk
   ·have nb:∀ d,(N+d=q)=False:=fun d=>eq_false (by omega)
    simp only [↓R0,R1,simprocAttr,-Int.reduceAbs,nb]
    exact hh q hq
 have c1':((j:Int) < (n:Int))=True:=eq_true (by omega)
 have w1:IntKind.i64.wrap ((j:Int)+1)=((j+1:Nat):Int):=by rw [i64_in _ (by omega)];omega
 obtain ⟨k1,f1,B1,rfl,h1,q1,q2⟩:=rq_at hl c1
 have l1:=hN _ _ h1
 have b1:hget hp k1=some B1:=by rw [hh k1 l1];exact h1
 have n1:=nbq k1 l1
 have u1:(rqAt e.coef j).cells.length=3:=rfl
 have u2:(rqAt e.coef j).cells.all okCell=true:=rfl
 have oj:=opc j c1
 obtain ⟨k2,f2,B2,rfl,h2,q3,q4⟩:=rq_at hl2 c1
 have l2:=hN _ _ h2
 have b2:hget hp k2=some B2:=by rw [hh k2 l2];exact h2
 have n2:=nbq k2 l2
 have u3:(rqAt q.coef j).cells.length=3:=rfl
 have u4:(rqAt q.coef j).cells.all okCell=true:=rfl
 generalize (rqAt q.coef j).cells=PQ at *
 generalize (rqAt e.coef j).cells=PE at *
 have gs:=gEs (F j)
 have fa:=fq_succ F j
 have lfa:(rqs (fq F j)).length=j * 3:=by rw [rqs_len,fq_len]
 have ofa:=rqs_ok (fq F j)
 have dj1:((j+1) * 40 <= 140737488355328)=True:=eq_true (by omega)
 have dj2:(j+1 <= j)=False:=eq_false (by omega)
 have v0:∀ d,(M+d=N)=False:=fun d=>eq_false (by omega)
 have v1:∀ d,(N=M+d)=False:=fun d=>eq_false (by omega)
 have v2:(N=k1)=False:=eq_false (by omega)
 have v3:(N=k2)=False:=eq_false (by omega)
 have v4:∀ d,(M+d=N+1)=False:=fun d=>eq_false (by omega)
 have v5:∀ d,(N+1=M+d)=False:=fun d=>eq_false (by omega)
 have v6:(N+1=k1)=False:=eq_false (by omega)
 have v7:(N+1=k2)=False:=eq_false (by omega)
 have v8:∀ d,(M+d=N+2)=False:=fun d=>eq_false (by omega)
 have v9:∀ d,(N+2=M+d)=False:=fun d=>eq_false (by omega)
 have v10:(N+2=k1)=False:=eq_false (by omega)
 have v11:(N+2=k2)=False:=eq_false (by omega)
 have v12:∀ d,(M+d=N+3)=False:=fun d=>eq_false (by omega)
 have v13:∀ d,(N+3=M+d)=False:=fun d=>eq_false (by omega)
 have v14:(N+3=k1)=False:=eq_false (by omega)
 have v15:(N+3=k2)=False:=eq_false (by omega)
 rcases hG with ⟨z,rfl⟩ | ⟨z,ka,y,rfl,bk,hk1,hk2⟩
 ·simp only [↓R0,R1,simprocAttr,-Int.reduceAbs,t2,t3,t4,t5,t6,c1,c1',bA,bB,bR,bS,b1,n1,q1,q2,u1,u2,b2,n2,q3,q4,u3,u4,d50,e5l,e50,d5l,d5o,d50,d51,r3,r4,oj,gE,gEo,gEt,gs,s5,s5o,s5s,w1,p0,p1,p2,p3,p4,p5,p6,p7,p8,p9,p10,p11,v0,v1,v2,v3,v4,v5,v6,v7,v8,v9,v10,v11,v12,v13,v14,v15,Nat.zero_add,Nat.zero_mul,List.nil_append]
  have ea:rqs (fq F (j+1))=rE (F j):=by subst z;exact (fq_succ F 0).symm
  refine ⟨c' - 1,by omega,j+1,M+2,.slice (some ⟨M+1,0,none⟩) 1 1,by omega,rfl,⟨_,rfl⟩,⟨_,rfl⟩,⟨_,rfl⟩,⟨_,rfl⟩,.inr ⟨by omega,M+1,false,by rw [z],?_,by omega,by omega⟩,fun q hq=>?_,by omega,rfl⟩
  ·rw [ea];simp only [↓R0,R1,simprocAttr,-Int.reduceAbs,v0,v1,v2,v3,v4,v5,v6,v7,v8,v9,v10,v11,v12,v13,v14,v15]
  ·have nb:=nbq q hq
   have nc:∀ d,(N+d=q)=False:=fun d=>eq_false (by omega)
   simp only [↓R0,R1,simprocAttr,-Int.reduceAbs,nb,nc]
   exact hh q hq
 ·have x0:∀ d,(M+d=ka)=False:=fun d=>eq_false (by omega)
  have x1:∀ d,(ka=M+d)=False:=fun d=>eq_false (by omega)
  have x2:(ka=N)=False:=eq_false (by omega)
  have x3:(ka=N+1)=False:=eq_false (by omega)
  have x4:(ka=N+2)=False:=eq_false (by omega)
  have x5:(ka=N+3)=False:=eq_false (by omega)
  have x6:(N=ka)=False:=eq_false (by omega)
  have x7:∀ d,(N+d+4=ka)=(N+d+4=ka):=fun _=>rfl
  have x8:(ka=k1)=False:=eq_false (by omega)
  have x9:(ka=k2)=False:=eq_false (by omega)
  have y3:(N+3=ka)=False:=eq_false (by omega)
  simp only [↓R0,R1,simprocAttr,-Int.reduceAbs,t2,t3,t4,t5,t6,c1,c1',bA,bB,bR,bS,b1,n1,q1,q2,u1,u2,b2,n2,q3,q4,u3,u4,d50,e5l,e50,d5l,d5o,d50,d51,r3,r4,oj,gE,gEo,gEt,gs,s5,s5o,s5s,w1,p0,p1,p2,p3,p4,p5,p6,p7,p8,p9,p10,p11,v0,v1,v2,v3,v4,v5,v6,v7,v8,v9,v10,v11,v12,v13,v14,v15,bk,fa,lfa,ofa,dj1,dj2,x0,x1,x2,x3,x4,x5,x6,x8,x9,y3,Nat.zero_add,Nat.zero_mul,List.nil_append]
  refine ⟨c' - 1,by omega,j+1,M+2,.slice (some ⟨M+1,0,none⟩) (j+1) (j+1),by omega,rfl,⟨_,rfl⟩,⟨_,rfl⟩,⟨_,rfl⟩,⟨_,rfl⟩,.inr ⟨by omega,M+1,false,rfl,?_,by omega,by omega⟩,fun q hq=>?_,by omega,rfl⟩
  ·simp only [↓R0,R1,simprocAttr,-Int.reduceAbs,v0,v1,v2,v3,v4,v5,v6,v7,v8,v9,v10,v11,v12,v13,v14,v15]
  ·have nb:=nbq q hq
   have nc:∀ d,(N+d=q)=False:=fun d=>eq_false (by omega)
   have nd:(ka=q)=False:=eq_false (by omega)
   simp only [↓R0,R1,simprocAttr,-Int.reduceAbs,nb,nc,nd]
   exact hh q hq
end Go.Eng
end
