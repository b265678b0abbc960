/- append onto a row of the call's own. -/
import Derived.Test.YthaacmablcpdfaaGreatDoorZaa
import Derived.Maps.AppendAt
import Derived.Laws.AppendOwnNone
import Derived.RegionTactic
namespace Go.Proofs.YthaacmablcpdfaaGreatDoor
open Go.RowKit
set_option linter.unusedVariables false
structure El(P:Program)(t e:TypeId)(size bytes:Nat):Prop where
 ht:P.underlying t=some (.slice e)
 hi:∃i z,P.info? e=some i∧i.zero=some z∧i.size=size∧i.bytes=bytes∧z.cells.size=size
 pos:0<size
theorem El.of{P:Program}{t e:TypeId}{size bytes:Nat}{z:Value}(ht:P.underlying t=some (.slice e))(h:(P.info? e).map (fun i=>(i.zero,i.size,i.bytes))=some (some z,size,bytes))(hz:z.cells.size=size)(hp:0<size):El P t e size bytes:=by obtain⟨i0,hi,hz0,hz1,hz2⟩:=info_parts h;exact⟨ht,⟨i0,z,hi,hz0,hz1,hz2,hz⟩,hp⟩
def SrcOK(w:World)(src:Value)(m size:Nat)(news:List Value):Prop:=
 (∀u∈news,u.oneCell'=true)∧((src=.slice none 0 0∧m=0∧news=[]) ∨
 ∃ad c,src=.slice (some ad) m c∧news.length=m*size∧∀j u,news[j]?=some u→w.cell? (ad.add j)=some u)
theorem SrcOK.own{w:World}{base:Nat}{e:TypeId}{size n:Nat}{v:Value}{xs:List Value}(h:w.ownsRow base e size v n xs)(h1:∀u∈xs,u.oneCell'=true):SrcOK w v n size xs:=by
 refine⟨h1,?_⟩;rcases h.2 with⟨rfl,rfl⟩|⟨g,cap,cur,rfl,_⟩
 ·exact .inl ⟨rfl,rfl,List.eq_nil_of_length_eq_zero (by simpa using h.1)⟩
 ·exact .inr ⟨_,_,rfl,h.1,h.cells rfl⟩
theorem SrcOK.blk{w:World}{g:Nat}{t:TypeId}{cs:List Value}{m size c:Nat}(h:Blk w g t cs.toArray)(hl:cs.length=m*size)(h1:∀u∈cs,u.oneCell'=true):SrcOK w (.slice (some ⟨g,0,none⟩) m c) m size cs:=
 ⟨h1,.inr ⟨_,_,rfl,hl,news_blk h⟩⟩
theorem own_made{W:World}{cur:Array Value}{e:TypeId}{size base cap g:Nat}(hg:W.heap.size=g)(hb:base≤g)(hm:cap≤maxLen)(hs:cur.size=cap*size) :
  (W.alloc (.cells cur e)).ownsRow base e size (.slice (some ⟨g,0,none⟩) 0 cap) 0 []:=by
 subst hg;exact World.ownsRow_made W cur cap hb hm hs
theorem run_app{P:Program}{w:World}{t e ty:TypeId}{size bytes:Nat}(E:El P t e size bytes){base n m N:Nat}{v src:Value}{xs news:List Value}
  (hown:w.ownsRow base e size v n xs) (hsrc:SrcOK w src m size news) (hN:n+m=N) (h63:N≤maxLen) (hbytes:N*bytes≤140737488355328) (hbase:base≤w.heap.size) :
  ∃A c w',(Builtin.append_ #[t,t] ty #[v,src]).run P w=.ok (.slice A N c) w'∧w'.ownsRow base e size (.slice A N c) N (xs++news)∧Keeps base [e] w w' ∧
   (w.grownBy w' v.ownBlock∧((Value.slice A N c).ownBlock=v.ownBlock∨(Value.slice A N c).ownBlock=some w.heap.size)):=by
 subst hN;obtain⟨ht,⟨i,z,hi,hz,hs1,hs2,hz2⟩,hp⟩:=E;rcases hsrc with⟨h1,⟨rfl,rfl,rfl⟩|⟨ad,c,rfl,hl,hc⟩⟩
 ·have hr:=run_append_owned_none (P:=P) (w:=w) base t ty e i size ht hi v n xs hown
  rcases own_form hown with⟨rfl,rfl⟩|⟨b,c,rfl,_⟩
  ·exact⟨_,_,w,hr,by simpa using hown,Keeps.refl _ _ _,World.grownBy.refl w _,.inl rfl⟩
  ·exact⟨_,_,w,hr,by simpa using hown,Keeps.refl _ _ _,World.grownBy.refl w _,.inl rfl⟩
 ·obtain⟨v',w',hr,r1,r2,_,r4⟩:=run_append_own_at (P:=P) w base t ty e i z size bytes ht hi hz hs1 hs2 hz2 hp v n xs hown ad m c news hl hc h1 h63 hbytes hbase
  have hk:Keeps base [e] w w':=(Keeps.refl base [e] w).grown r2 fun k hk=>.inr (by
   rcases own_form hown with⟨h1,_⟩|⟨b,c,h1,h2,_,_,_,cur,h3⟩
   ·rw[h1]at hk;cases hk
   ·rw[h1]at hk
    simp only[Value.ownBlock,Option.some.injEq]at hk;subst hk;exact⟨h2,_,_,_,h3,by simp⟩)
  rcases own_form r1 with⟨rfl,h0⟩|⟨b,c',rfl,_⟩
  ·rw[h0]at r1 ⊢
   exact⟨_,_,w',hr,r1,hk,r2,r4⟩
  ·exact⟨_,_,w',hr,r1,hk,r2,r4⟩
theorem wp_app{P:Program}{w:World}{o:Oper}{a:Act}{K:Act→World→Prop}{Q:Exit→Act→World→Prop}{t e:TypeId}{size bytes:Nat}(E:El P t e size bytes)(s x:Operand)
  (ho:o.op=.call {callee:=.builtin .append,args:=#[s,x],argTypes:=#[t,t]}) {base n m N:Nat} {v src:Value} {xs news:List Value} (hs:a.eval s=v) (hx:a.eval x=src)
  (hown:w.ownsRow base e size v n xs) (hsrc:SrcOK w src m size news) (hN:n+m=N) (h63:N≤maxLen) (hbytes:N*bytes≤140737488355328) (hbase:base≤w.heap.size)
  (h:∀A c w',w'.ownsRow base e size (.slice A N c) N (xs++news)→Keeps base [e] w w'→(w.grownBy w' v.ownBlock∧((Value.slice A N c).ownBlock=v.ownBlock∨(Value.slice A N c).ownBlock=some w.heap.size))→K (a.put o.dst (.slice A N c)) w'):o.wp P a w K Q:=by
 obtain⟨A,c,w',hr,r1,r2,r3⟩:=run_app (P:=P) (ty:=o.type) E hown hsrc hN h63 hbytes hbase;unfold Oper.wp execOp;simp only[ho,resolve,invoke,builtin,Sem.run_bind,Sem.run_pure,Result.andThen_ok,List.map_toArray,List.map_cons,List.map_nil,hs,hx,hr];exact h A c w' r1 r2 r3
theorem wpList_app{P:Program}{w:World}{ops:Array Oper}{rest:List Oper}{o:Oper}{a:Act}{Q:Exit→Act→World→Prop}{t e:TypeId}{size bytes:Nat}(E:El P t e size bytes)(s x:Operand)(hgd:o.guard=none)
  (ho:o.op=.call {callee:=.builtin .append,args:=#[s,x],argTypes:=#[t,t]}) {base n m N:Nat} {v src:Value} {xs news:List Value} (hs:a.eval s=v) (hx:a.eval x=src)
  (hown:w.ownsRow base e size v n xs) (hsrc:SrcOK w src m size news) (hN:n+m=N) (h63:N≤maxLen) (hbytes:N*bytes≤140737488355328) (hbase:base≤w.heap.size)
  (h:∀A c w',w'.ownsRow base e size (.slice A N c) N (xs++news)→Keeps base [e] w w'→(w.grownBy w' v.ownBlock∧((Value.slice A N c).ownBlock=v.ownBlock∨(Value.slice A N c).ownBlock=some w.heap.size))→wpList P ops Q rest (a.put o.dst (.slice A N c)) w'):wpList P ops Q (o::rest) a w:=
 wpList_plain hgd fun _ hK=>wp_app E s x ho hs hx hown hsrc hN h63 hbytes hbase fun A c w' r1 r2 r3=>hK _ _ (h A c w' r1 r2 r3)
theorem step_app{P:Program}{w:World}{ops:Array Oper}{o:Oper}{a:Act}{K:Act→World→Prop}{Q:Exit→Act→World→Prop}{D:Prop}{t e:TypeId}{size bytes:Nat}(E:El P t e size bytes)(s x:Operand)(hgd:o.guard=none)
  (ho:o.op=.call {callee:=.builtin .append,args:=#[s,x],argTypes:=#[t,t]}) {base n m N:Nat} {v src:Value} {xs news:List Value} (hs:a.eval s=v) (hx:a.eval x=src)
  (hown:w.ownsRow base e size v n xs) (hsrc:SrcOK w src m size news) (hN:n+m=N) (h63:N≤maxLen) (hbytes:N*bytes≤140737488355328) (hbase:base≤w.heap.size)
  (h:∀A c w',w'.ownsRow base e size (.slice A N c) N (xs++news)→Keeps base [e] w w'→(w.grownBy w' v.ownBlock∧((Value.slice A N c).ownBlock=v.ownBlock∨(Value.slice A N c).ownBlock=some w.heap.size))→K (a.put o.dst (.slice A N c)) w') :
  if Region.wanted o (yielded ops a.tmps)=true then Oper.wp P o a w K Q else D:=by
 have hw:Region.wanted o (yielded ops a.tmps)=true:=by simp[Region.wanted,hgd]
 rw[if_pos hw];exact wp_app E s x ho hs hx hown hsrc hN h63 hbytes hbase h
end Go.Proofs.YthaacmablcpdfaaGreatDoor
