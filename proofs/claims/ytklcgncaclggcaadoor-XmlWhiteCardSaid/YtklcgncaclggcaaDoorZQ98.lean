/- A part of the proof of the seat's laws. No condition beyond those in the theorems. -/
import Derived.Test.YtklcgncaclggcaaDoorZQ0g18
import Derived.Test.YtklcgncaclggcaaDoorZQ53g3
import Derived.Test.YtklcgncaclggcaaDoorZQ45g11
open Bool renaming true→T,false→F

namespace Go.Proofs.YtklcgncaclggcaaDoor.Q
open Go.RowKit Go.Proofs.YtklcgncaclggcaaDoorW.PrintWords Go.Proofs.YtklcgncaclggcaaDoorW.PrintLast Go.Proofs.YtklcgncaclggcaaDoorW.PrintMore
set_option linter.unusedVariables false
set_option linter.unusedSimpArgs false
set_option maxHeartbeats 8000000
set_option maxRecDepth 100000
attribute [local go_sem] max2_int min2_int max_two min_two max_three min_three max_four min_four   
def stowagelaw13_XmlWhite.j0:Nat→Int→Int→Bool→ByteArray→ByteArray→List (S24)→ByteArray→ByteArray→List (S24)→Option (Bool)
 | 0,_,_,_,_,_,_,_,_,_=>none
 | k+1,x11,x13,x81,x406000,x406001,x406002,x413000,x413001,x413002=>if x81=true then(if x11=x13 then((stowagelaw13_awake.f k).bind fun t413=>(some t413)) else(some false)) else(if(x406002.length:Int)=3 then(if(x413002.length:Int)=3 then(if 0<(x406002.length:Int) then(if 0<(x413002.length:Int) then(if((rd_T24 x406002 0).f1).toList=((rd_T24 x413002 0).f1).toList then(if 1<(x406002.length:Int) then(if 1<(x413002.length:Int) then(if((rd_T24 x406002 1).f1).toList=((rd_T24 x413002 1).f1).toList then(if 2<(x413002.length:Int) then(if((rd_T24 x413002 2).f1).toList=([]:List UInt8) then((stowagelaw13_awake.f k).bind fun t419=>(some t419)) else(some false)) else(none)) else(some false)) else(none)) else(none)) else(some false)) else(none)) else(none)) else(some false)) else(some false))
def stowagelaw13_XmlWhite.f (k:Nat) (a0:ByteArray) (a1:ByteArray) (a2:Int):Option (Bool):=if(wrap64 ((a0.size:Int)+(a1.size:Int)))>1000 then((stowagelaw13_awake.f k).bind fun t392=>(some t392)) else((some (([(⟨#[]⟩ : ByteArray),(⟨#[32]⟩ : ByteArray),(⟨#[10,9]⟩ : ByteArray),(⟨#[13,10,32,32]⟩ : ByteArray)]:List ByteArray):List ByteArray)).bind fun y393=>(if 0≤(Go.bits .and .i64 a2 3) then(if(Go.bits .and .i64 a2 3)<(y393.length:Int) then((xml_Escape.f a0).bind fun t397=>((xml_Escape.f a1).bind fun t398=>(if 6+t397.size≤9223372036854775807 then(if((⟨#[60,114,62,60,107,62]⟩ : ByteArray)++t397).size+7≤9223372036854775807 then(if(((⟨#[60,114,62,60,107,62]⟩ : ByteArray)++t397)++(⟨#[60,47,107,62,60,118,62]⟩ : ByteArray)).size+t398.size≤9223372036854775807 then(if((((⟨#[60,114,62,60,107,62]⟩ : ByteArray)++t397)++(⟨#[60,47,107,62,60,118,62]⟩ : ByteArray))++t398).size+15≤9223372036854775807 then((xml_Parse.f k (((((⟨#[60,114,62,60,107,62]⟩ : ByteArray)++t397)++(⟨#[60,47,107,62,60,118,62]⟩ : ByteArray))++t398)++(⟨#[60,47,118,62,60,122,62,60,47,122,62,60,47,114,62]⟩ : ByteArray))).bind fun bt399=>(if(rdOf ByteArray.empty y393 (Go.bits .and .i64 a2 3)).size+2≤9223372036854775807 then(if((rdOf ByteArray.empty y393 (Go.bits .and .i64 a2 3))++(⟨#[60,114]⟩ : ByteArray)).size+(rdOf ByteArray.empty y393 (Go.bits .and .i64 a2 3)).size≤9223372036854775807 then(if(((rdOf ByteArray.empty y393 (Go.bits .and .i64 a2 3))++(⟨#[60,114]⟩ : ByteArray))++(rdOf ByteArray.empty y393 (Go.bits .and .i64 a2 3))).size+7≤9223372036854775807 then(if((((rdOf ByteArray.empty y393 (Go.bits .and .i64 a2 3))++(⟨#[60,114]⟩ : ByteArray))++(rdOf ByteArray.empty y393 (Go.bits .and .i64 a2 3)))++(⟨#[32,120,61,39,49,39,62]⟩ : ByteArray)).size+(rdOf ByteArray.empty y393 (Go.bits .and .i64 a2 3)).size≤9223372036854775807 then(if(((((rdOf ByteArray.empty y393 (Go.bits .and .i64 a2 3))++(⟨#[60,114]⟩ : ByteArray))++(rdOf ByteArray.empty y393 (Go.bits .and .i64 a2 3)))++(⟨#[32,120,61,39,49,39,62]⟩ : ByteArray))++(rdOf ByteArray.empty y393 (Go.bits .and .i64 a2 3))).size+9≤9223372036854775807 then(if((((((rdOf ByteArray.empty y393 (Go.bits .and .i64 a2 3))++(⟨#[60,114]⟩ : ByteArray))++(rdOf ByteArray.empty y393 (Go.bits .and .i64 a2 3)))++(⟨#[32,120,61,39,49,39,62]⟩ : ByteArray))++(rdOf ByteArray.empty y393 (Go.bits .and .i64 a2 3)))++(⟨#[60,107,32,121,61,34,50,34,62]⟩ : ByteArray)).size+t397.size≤9223372036854775807 then(if(((((((rdOf ByteArray.empty y393 (Go.bits .and .i64 a2 3))++(⟨#[60,114]⟩ : ByteArray))++(rdOf ByteArray.empty y393 (Go.bits .and .i64 a2 3)))++(⟨#[32,120,61,39,49,39,62]⟩ : ByteArray))++(rdOf ByteArray.empty y393 (Go.bits .and .i64 a2 3)))++(⟨#[60,107,32,121,61,34,50,34,62]⟩ : ByteArray))++t397).size+3≤9223372036854775807 then(if((((((((rdOf ByteArray.empty y393 (Go.bits .and .i64 a2 3))++(⟨#[60,114]⟩ : ByteArray))++(rdOf ByteArray.empty y393 (Go.bits .and .i64 a2 3)))++(⟨#[32,120,61,39,49,39,62]⟩ : ByteArray))++(rdOf ByteArray.empty y393 (Go.bits .and .i64 a2 3)))++(⟨#[60,107,32,121,61,34,50,34,62]⟩ : ByteArray))++t397)++(⟨#[60,47,107]⟩ : ByteArray)).size+(rdOf ByteArray.empty y393 (Go.bits .and .i64 a2 3)).size≤9223372036854775807 then(if(((((((((rdOf ByteArray.empty y393 (Go.bits .and .i64 a2 3))++(⟨#[60,114]⟩ : ByteArray))++(rdOf ByteArray.empty y393 (Go.bits .and .i64 a2 3)))++(⟨#[32,120,61,39,49,39,62]⟩ : ByteArray))++(rdOf ByteArray.empty y393 (Go.bits .and .i64 a2 3)))++(⟨#[60,107,32,121,61,34,50,34,62]⟩ : ByteArray))++t397)++(⟨#[60,47,107]⟩ : ByteArray))++(rdOf ByteArray.empty y393 (Go.bits .and .i64 a2 3))).size+1≤9223372036854775807 then(if((((((((((rdOf ByteArray.empty y393 (Go.bits .and .i64 a2 3))++(⟨#[60,114]⟩ : ByteArray))++(rdOf ByteArray.empty y393 (Go.bits .and .i64 a2 3)))++(⟨#[32,120,61,39,49,39,62]⟩ : ByteArray))++(rdOf ByteArray.empty y393 (Go.bits .and .i64 a2 3)))++(⟨#[60,107,32,121,61,34,50,34,62]⟩ : ByteArray))++t397)++(⟨#[60,47,107]⟩ : ByteArray))++(rdOf ByteArray.empty y393 (Go.bits .and .i64 a2 3)))++(⟨#[62]⟩ : ByteArray)).size+(rdOf ByteArray.empty y393 (Go.bits .and .i64 a2 3)).size≤9223372036854775807 then(if(((((((((((rdOf ByteArray.empty y393 (Go.bits .and .i64 a2 3))++(⟨#[60,114]⟩ : ByteArray))++(rdOf ByteArray.empty y393 (Go.bits .and .i64 a2 3)))++(⟨#[32,120,61,39,49,39,62]⟩ : ByteArray))++(rdOf ByteArray.empty y393 (Go.bits .and .i64 a2 3)))++(⟨#[60,107,32,121,61,34,50,34,62]⟩ : ByteArray))++t397)++(⟨#[60,47,107]⟩ : ByteArray))++(rdOf ByteArray.empty y393 (Go.bits .and .i64 a2 3)))++(⟨#[62]⟩ : ByteArray))++(rdOf ByteArray.empty y393 (Go.bits .and .i64 a2 3))).size+3≤9223372036854775807 then(if((((((((((((rdOf ByteArray.empty y393 (Go.bits .and .i64 a2 3))++(⟨#[60,114]⟩ : ByteArray))++(rdOf ByteArray.empty y393 (Go.bits .and .i64 a2 3)))++(⟨#[32,120,61,39,49,39,62]⟩ : ByteArray))++(rdOf ByteArray.empty y393 (Go.bits .and .i64 a2 3)))++(⟨#[60,107,32,121,61,34,50,34,62]⟩ : ByteArray))++t397)++(⟨#[60,47,107]⟩ : ByteArray))++(rdOf ByteArray.empty y393 (Go.bits .and .i64 a2 3)))++(⟨#[62]⟩ : ByteArray))++(rdOf ByteArray.empty y393 (Go.bits .and .i64 a2 3)))++(⟨#[60,118,62]⟩ : ByteArray)).size+t398.size≤9223372036854775807 then(if(((((((((((((rdOf ByteArray.empty y393 (Go.bits .and .i64 a2 3))++(⟨#[60,114]⟩ : ByteArray))++(rdOf ByteArray.empty y393 (Go.bits .and .i64 a2 3)))++(⟨#[32,120,61,39,49,39,62]⟩ : ByteArray))++(rdOf ByteArray.empty y393 (Go.bits .and .i64 a2 3)))++(⟨#[60,107,32,121,61,34,50,34,62]⟩ : ByteArray))++t397)++(⟨#[60,47,107]⟩ : ByteArray))++(rdOf ByteArray.empty y393 (Go.bits .and .i64 a2 3)))++(⟨#[62]⟩ : ByteArray))++(rdOf ByteArray.empty y393 (Go.bits .and .i64 a2 3)))++(⟨#[60,118,62]⟩ : ByteArray))++t398).size+4≤9223372036854775807 then(if((((((((((((((rdOf ByteArray.empty y393 (Go.bits .and .i64 a2 3))++(⟨#[60,114]⟩ : ByteArray))++(rdOf ByteArray.empty y393 (Go.bits .and .i64 a2 3)))++(⟨#[32,120,61,39,49,39,62]⟩ : ByteArray))++(rdOf ByteArray.empty y393 (Go.bits .and .i64 a2 3)))++(⟨#[60,107,32,121,61,34,50,34,62]⟩ : ByteArray))++t397)++(⟨#[60,47,107]⟩ : ByteArray))++(rdOf ByteArray.empty y393 (Go.bits .and .i64 a2 3)))++(⟨#[62]⟩ : ByteArray))++(rdOf ByteArray.empty y393 (Go.bits .and .i64 a2 3)))++(⟨#[60,118,62]⟩ : ByteArray))++t398)++(⟨#[60,47,118,62]⟩ : ByteArray)).size+(rdOf ByteArray.empty y393 (Go.bits .and .i64 a2 3)).size≤9223372036854775807 then(if(((((((((((((((rdOf ByteArray.empty y393 (Go.bits .and .i64 a2 3))++(⟨#[60,114]⟩ : ByteArray))++(rdOf ByteArray.empty y393 (Go.bits .and .i64 a2 3)))++(⟨#[32,120,61,39,49,39,62]⟩ : ByteArray))++(rdOf ByteArray.empty y393 (Go.bits .and .i64 a2 3)))++(⟨#[60,107,32,121,61,34,50,34,62]⟩ : ByteArray))++t397)++(⟨#[60,47,107]⟩ : ByteArray))++(rdOf ByteArray.empty y393 (Go.bits .and .i64 a2 3)))++(⟨#[62]⟩ : ByteArray))++(rdOf ByteArray.empty y393 (Go.bits .and .i64 a2 3)))++(⟨#[60,118,62]⟩ : ByteArray))++t398)++(⟨#[60,47,118,62]⟩ : ByteArray))++(rdOf ByteArray.empty y393 (Go.bits .and .i64 a2 3))).size+2≤9223372036854775807 then(if((((((((((((((((rdOf ByteArray.empty y393 (Go.bits .and .i64 a2 3))++(⟨#[60,114]⟩ : ByteArray))++(rdOf ByteArray.empty y393 (Go.bits .and .i64 a2 3)))++(⟨#[32,120,61,39,49,39,62]⟩ : ByteArray))++(rdOf ByteArray.empty y393 (Go.bits .and .i64 a2 3)))++(⟨#[60,107,32,121,61,34,50,34,62]⟩ : ByteArray))++t397)++(⟨#[60,47,107]⟩ : ByteArray))++(rdOf ByteArray.empty y393 (Go.bits .and .i64 a2 3)))++(⟨#[62]⟩ : ByteArray))++(rdOf ByteArray.empty y393 (Go.bits .and .i64 a2 3)))++(⟨#[60,118,62]⟩ : ByteArray))++t398)++(⟨#[60,47,118,62]⟩ : ByteArray))++(rdOf ByteArray.empty y393 (Go.bits .and .i64 a2 3)))++(⟨#[60,122]⟩ : ByteArray)).size+(rdOf ByteArray.empty y393 (Go.bits .and .i64 a2 3)).size≤9223372036854775807 then(if(((((((((((((((((rdOf ByteArray.empty y393 (Go.bits .and .i64 a2 3))++(⟨#[60,114]⟩ : ByteArray))++(rdOf ByteArray.empty y393 (Go.bits .and .i64 a2 3)))++(⟨#[32,120,61,39,49,39,62]⟩ : ByteArray))++(rdOf ByteArray.empty y393 (Go.bits .and .i64 a2 3)))++(⟨#[60,107,32,121,61,34,50,34,62]⟩ : ByteArray))++t397)++(⟨#[60,47,107]⟩ : ByteArray))++(rdOf ByteArray.empty y393 (Go.bits .and .i64 a2 3)))++(⟨#[62]⟩ : ByteArray))++(rdOf ByteArray.empty y393 (Go.bits .and .i64 a2 3)))++(⟨#[60,118,62]⟩ : ByteArray))++t398)++(⟨#[60,47,118,62]⟩ : ByteArray))++(rdOf ByteArray.empty y393 (Go.bits .and .i64 a2 3)))++(⟨#[60,122]⟩ : ByteArray))++(rdOf ByteArray.empty y393 (Go.bits .and .i64 a2 3))).size+2≤9223372036854775807 then(if((((((((((((((((((rdOf ByteArray.empty y393 (Go.bits .and .i64 a2 3))++(⟨#[60,114]⟩ : ByteArray))++(rdOf ByteArray.empty y393 (Go.bits .and .i64 a2 3)))++(⟨#[32,120,61,39,49,39,62]⟩ : ByteArray))++(rdOf ByteArray.empty y393 (Go.bits .and .i64 a2 3)))++(⟨#[60,107,32,121,61,34,50,34,62]⟩ : ByteArray))++t397)++(⟨#[60,47,107]⟩ : ByteArray))++(rdOf ByteArray.empty y393 (Go.bits .and .i64 a2 3)))++(⟨#[62]⟩ : ByteArray))++(rdOf ByteArray.empty y393 (Go.bits .and .i64 a2 3)))++(⟨#[60,118,62]⟩ : ByteArray))++t398)++(⟨#[60,47,118,62]⟩ : ByteArray))++(rdOf ByteArray.empty y393 (Go.bits .and .i64 a2 3)))++(⟨#[60,122]⟩ : ByteArray))++(rdOf ByteArray.empty y393 (Go.bits .and .i64 a2 3)))++(⟨#[47,62]⟩ : ByteArray)).size+(rdOf ByteArray.empty y393 (Go.bits .and .i64 a2 3)).size≤9223372036854775807 then(if(((((((((((((((((((rdOf ByteArray.empty y393 (Go.bits .and .i64 a2 3))++(⟨#[60,114]⟩ : ByteArray))++(rdOf ByteArray.empty y393 (Go.bits .and .i64 a2 3)))++(⟨#[32,120,61,39,49,39,62]⟩ : ByteArray))++(rdOf ByteArray.empty y393 (Go.bits .and .i64 a2 3)))++(⟨#[60,107,32,121,61,34,50,34,62]⟩ : ByteArray))++t397)++(⟨#[60,47,107]⟩ : ByteArray))++(rdOf ByteArray.empty y393 (Go.bits .and .i64 a2 3)))++(⟨#[62]⟩ : ByteArray))++(rdOf ByteArray.empty y393 (Go.bits .and .i64 a2 3)))++(⟨#[60,118,62]⟩ : ByteArray))++t398)++(⟨#[60,47,118,62]⟩ : ByteArray))++(rdOf ByteArray.empty y393 (Go.bits .and .i64 a2 3)))++(⟨#[60,122]⟩ : ByteArray))++(rdOf ByteArray.empty y393 (Go.bits .and .i64 a2 3)))++(⟨#[47,62]⟩ : ByteArray))++(rdOf ByteArray.empty y393 (Go.bits .and .i64 a2 3))).size+4≤9223372036854775807 then(if((((((((((((((((((((rdOf ByteArray.empty y393 (Go.bits .and .i64 a2 3))++(⟨#[60,114]⟩ : ByteArray))++(rdOf ByteArray.empty y393 (Go.bits .and .i64 a2 3)))++(⟨#[32,120,61,39,49,39,62]⟩ : ByteArray))++(rdOf ByteArray.empty y393 (Go.bits .and .i64 a2 3)))++(⟨#[60,107,32,121,61,34,50,34,62]⟩ : ByteArray))++t397)++(⟨#[60,47,107]⟩ : ByteArray))++(rdOf ByteArray.empty y393 (Go.bits .and .i64 a2 3)))++(⟨#[62]⟩ : ByteArray))++(rdOf ByteArray.empty y393 (Go.bits .and .i64 a2 3)))++(⟨#[60,118,62]⟩ : ByteArray))++t398)++(⟨#[60,47,118,62]⟩ : ByteArray))++(rdOf ByteArray.empty y393 (Go.bits .and .i64 a2 3)))++(⟨#[60,122]⟩ : ByteArray))++(rdOf ByteArray.empty y393 (Go.bits .and .i64 a2 3)))++(⟨#[47,62]⟩ : ByteArray))++(rdOf ByteArray.empty y393 (Go.bits .and .i64 a2 3)))++(⟨#[60,47,114,62]⟩ : ByteArray)).size+(rdOf ByteArray.empty y393 (Go.bits .and .i64 a2 3)).size≤9223372036854775807 then((xml_Parse.f k (((((((((((((((((((((rdOf ByteArray.empty y393 (Go.bits .and .i64 a2 3))++(⟨#[60,114]⟩ : ByteArray))++(rdOf ByteArray.empty y393 (Go.bits .and .i64 a2 3)))++(⟨#[32,120,61,39,49,39,62]⟩ : ByteArray))++(rdOf ByteArray.empty y393 (Go.bits .and .i64 a2 3)))++(⟨#[60,107,32,121,61,34,50,34,62]⟩ : ByteArray))++t397)++(⟨#[60,47,107]⟩ : ByteArray))++(rdOf ByteArray.empty y393 (Go.bits .and .i64 a2 3)))++(⟨#[62]⟩ : ByteArray))++(rdOf ByteArray.empty y393 (Go.bits .and .i64 a2 3)))++(⟨#[60,118,62]⟩ : ByteArray))++t398)++(⟨#[60,47,118,62]⟩ : ByteArray))++(rdOf ByteArray.empty y393 (Go.bits .and .i64 a2 3)))++(⟨#[60,122]⟩ : ByteArray))++(rdOf ByteArray.empty y393 (Go.bits .and .i64 a2 3)))++(⟨#[47,62]⟩ : ByteArray))++(rdOf ByteArray.empty y393 (Go.bits .and .i64 a2 3)))++(⟨#[60,47,114,62]⟩ : ByteArray))++(rdOf ByteArray.empty y393 (Go.bits .and .i64 a2 3)))).bind fun bt406=>(if bt399.2.2.2=bt406.2.2.2 then(stowagelaw13_XmlWhite.j0 k bt399.2.2.2 bt406.2.2.2 (bt399.2.2.2 != 0) bt399.1 bt399.2.1 bt399.2.2.1 bt406.1 bt406.2.1 bt406.2.2.1) else(stowagelaw13_XmlWhite.j0 k bt399.2.2.2 bt406.2.2.2 true bt399.1 bt399.2.1 bt399.2.2.1 bt406.1 bt406.2.1 bt406.2.2.1))) else(none)) else(none)) else(none)) else(none)) else(none)) else(none)) else(none)) else(none)) else(none)) else(none)) else(none)) else(none)) else(none)) else(none)) else(none)) else(none)) else(none)) else(none)) else(none)) else(none))) else(none)) else(none)) else(none)) else(none)))) else(none)) else(none)))
theorem stowagelaw13_XmlWhite.mono_l:∀ k,(∀ y0 y1 y2 y3 y4 y5 y6 y7 y8,LeO (stowagelaw13_XmlWhite.j0 k y0 y1 y2 y3 y4 y5 y6 y7 y8) (stowagelaw13_XmlWhite.j0 (k+1) y0 y1 y2 y3 y4 y5 y6 y7 y8))
 | 0=>fun _ _ _ _ _ _ _ _ _ r h=>by simp [stowagelaw13_XmlWhite.j0] at h
 | k+1=>by
  have ih0:=stowagelaw13_XmlWhite.mono_l k
  ·intro y0 y1 y2 y3 y4 y5 y6 y7 y8
   unfold stowagelaw13_XmlWhite.j0
   repeat' first
   | (with_reducible exact ih0 _ _ _ _ _ _ _ _ _)
   | (with_reducible exact stowagelaw13_awake.mono _)
   | (with_reducible exact xml_Parse.mono _ _)
   | (with_reducible exact LeO.refl _)
   | (with_reducible exact LeO.none _)
   | (with_reducible refine LeO.ite ?_ ?_)
   | (with_reducible refine LeO.bind ?_ (fun _=>?_))
   | exact ih0 _ _ _ _ _ _ _ _ _
   | exact stowagelaw13_awake.mono _
   | exact xml_Parse.mono _ _
   | exact LeO.none _
   | refine LeO.ite ?_ ?_
   | refine LeO.bind ?_ (fun _=>?_)
theorem stowagelaw13_XmlWhite.mono:∀ a0 a1 a2 k,LeO (stowagelaw13_XmlWhite.f k a0 a1 a2) (stowagelaw13_XmlWhite.f (k+1) a0 a1 a2):=by
 intro a0 a1 a2 k
 have ih0:=stowagelaw13_XmlWhite.mono_l k
 unfold stowagelaw13_XmlWhite.f
 repeat' first
   | (with_reducible exact ih0 _ _ _ _ _ _ _ _ _)
   | (with_reducible exact stowagelaw13_awake.mono _)
   | (with_reducible exact xml_Parse.mono _ _)
   | (with_reducible exact LeO.refl _)
   | (with_reducible exact LeO.none _)
   | (with_reducible refine LeO.ite ?_ ?_)
   | (with_reducible refine LeO.bind ?_ (fun _=>?_))
   | exact ih0 _ _ _ _ _ _ _ _ _
   | exact stowagelaw13_awake.mono _
   | exact xml_Parse.mono _ _
   | exact LeO.none _
   | refine LeO.ite ?_ ?_
   | refine LeO.bind ?_ (fun _=>?_)
def stowagelaw13_XmlWhite.T9:Bool×List (List Nat×List Nat):=(true,[([],[]),([0],[0]),([1],[1]),([2],[2]),([3],[3]),([4],[4]),([5,4],[4,5]),([6,4],[4,6]),([7,4],[4,7]),([4,8],[4,8]),([9,4],[9]),([10],[10]),([11,10],[10,11]),([12,10],[10,12]),([13,10],[10,13]),([14,10],[10,14]),([10],[10]),([16,10],[10,16]),([17,10],[10,17]),([18,10],[10,18]),([19,10],[10,19]),([15,20,10],[10,15,20]),([10,21],[10,21]),([22,10],[22]),([23],[23]),([24,23],[23,24]),([25,23],[23,25]),([26,23],[23,26]),([27,23],[23,27]),([23],[23]),([29,23],[23,29]),([30,23],[23,30]),([31,23],[23,31]),([32,23],[23,32]),([28,33,23],[23,28,33]),([23,34],[23,34]),([35,23],[35]),([36],[36]),([37,36],[36,37]),([38,36],[36,38]),([39,36],[36,39]),([40,36],[36,40]),([41,36],[36,41]),([36,42],[36,42]),([43,36],[43]),([44,44],[44]),([44,45],[44,45]),([46,45,0,1,2,3,4,5,6,7,8,9,10,11,12,13,14,15,16,17,18,19,20,21,22,23,24,25,26,27,28,29,30,31,32,33,34,35,36,37,38,39,40,41,42,43,44,45,46],[46])])
def stowagelaw13_XmlWhite.B9:List Nat:=[0,1,3,7,15,31,63,127,255,511,1023,2047,4095,8191,16383,32767,2047,67583,198655,460799,985087,2097151,4194303,8388607,16777215,33554431,67108863,134217727,268435455,16777215,553648127,1627389951,3774873599,8069840895,17179869183,34359738367,68719476735,137438953471,274877906943,549755813887,1099511627775,2199023255551,4398046511103,8796093022207,17592186044415,35184372088831,70368744177663,140737488355327]
theorem stowagelaw13_XmlWhite.tab9:rtab .any (opsOf Tryd.f8 9)=stowagelaw13_XmlWhite.T9:=by kernel_rfl
theorem stowagelaw13_XmlWhite.bits9:waitsOk stowagelaw13_XmlWhite.T9.2 stowagelaw13_XmlWhite.B9=true:=by kernel_rfl
theorem stowagelaw13_XmlWhite.calls (k:Nat) (a0:ByteArray) (a1:ByteArray) (a2:Int) (r:Bool) (w:World) (hG:GOk w) (h:stowagelaw13_XmlWhite.f k a0 a1 a2=some r) (hr:r=true) :
  Calls Tryd.prog 8 #[.string a0,.string a1,.int .i64 a2] w fun e w'=>e = .returned (.bool r)∧Below w.heap.size w w':=by
 have hu24:=Tryd.underlying24
 have HB:=Aside0.mk (Below.refl w.heap.size w)
 unfold stowagelaw13_XmlWhite.f at h
 have H:=h
 clear h
 replace H:=itO H
 rcases H with⟨c4,H⟩|⟨c4,H⟩
 ·skip
  have c4b0:decide (1000<(wrap64 ((a0.size:Int)+(a1.size:Int))))=true:=decide_eq_true c4
  clear c4
  replace H:=bndO H
  obtain⟨t392,A50,H⟩:=H
  have A5:=Aside0.mk A50
  clear A50
  clear hr
  obtain rfl:=Option.some.inj H
  go_enter Tryd.func8,Tryd.ntmps8
  go_wp2_with (first|((with_reducible refine gate_callee (f:=14) rfl ?_);refine goesL_ (some 20) rfl rfl Tryd.func14 (by kernel_rfl) rfl #[] rfl (by(try simp only [List.map_toArray,List.map_cons,List.map_nil]);first|done|rfl|(simp only [List.length_drop,List.length_take];rfl)) ?_;(with_reducible refine(stowagelaw13_awake.calls k  t392 _ (by first|exact hG|exact gok_below hG (by repeat (first|(with_reducible first|exact HB.out|apply below_alloc|apply pw_below_drewN|apply below_drew1)|exact HB.out))|exact gok_heap hG rfl|exact gok_drewN hG _|exact gok_below hG (by repeat (first|exact HB.out|exact HBW.out|exact Below.refl _ _|apply below_alloc|apply pw_below_drewN|apply below_drew1))) A5.out).mono ?_);rintro e w6 ⟨rfl,hb⟩;refine⟨_,rfl,?_⟩;have n0_:=Aside0.mk (below_step (by repeat (first|(with_reducible first|exact HB.out|apply below_alloc|apply pw_below_drewN|apply below_drew1)|exact HB.out)) hb);clear HB;have HB:=n0_;clear n0_;(try clear hb);(try clear hb2);(try clear hk);(try clear hi)))
  go_ret
  exact⟨by first|rfl|(simp [errW_none,errW_some] <;> rfl)|(simp [*,errW_none,errW_some] <;> rfl),by repeat (first|(with_reducible first|exact HB.out|apply below_alloc|apply pw_below_drewN|apply below_drew1)|exact HB.out)⟩
 ·skip
  have c4b0:decide (1000<(wrap64 ((a0.size:Int)+(a1.size:Int))))=false:=decide_eq_false c4
  clear c4
  obtain⟨y393,hy393⟩ : ∃ y_:List ByteArray,y_=(([(⟨#[]⟩ : ByteArray),(⟨#[32]⟩ : ByteArray),(⟨#[10,9]⟩ : ByteArray),(⟨#[13,10,32,32]⟩ : ByteArray)]:List ByteArray)):=⟨_,rfl⟩
  replace H:(if 0≤(Go.bits .and .i64 a2 3) then(if(Go.bits .and .i64 a2 3)<(y393.length:Int) then((xml_Escape.f a0).bind fun t397=>((xml_Escape.f a1).bind fun t398=>(if 6+t397.size≤9223372036854775807 then(if((⟨#[60,114,62,60,107,62]⟩ : ByteArray)++t397).size+7≤9223372036854775807 then(if(((⟨#[60,114,62,60,107,62]⟩ : ByteArray)++t397)++(⟨#[60,47,107,62,60,118,62]⟩ : ByteArray)).size+t398.size≤9223372036854775807 then(if((((⟨#[60,114,62,60,107,62]⟩ : ByteArray)++t397)++(⟨#[60,47,107,62,60,118,62]⟩ : ByteArray))++t398).size+15≤9223372036854775807 then((xml_Parse.f k (((((⟨#[60,114,62,60,107,62]⟩ : ByteArray)++t397)++(⟨#[60,47,107,62,60,118,62]⟩ : ByteArray))++t398)++(⟨#[60,47,118,62,60,122,62,60,47,122,62,60,47,114,62]⟩ : ByteArray))).bind fun bt399=>(if(rdOf ByteArray.empty y393 (Go.bits .and .i64 a2 3)).size+2≤9223372036854775807 then(if((rdOf ByteArray.empty y393 (Go.bits .and .i64 a2 3))++(⟨#[60,114]⟩ : ByteArray)).size+(rdOf ByteArray.empty y393 (Go.bits .and .i64 a2 3)).size≤9223372036854775807 then(if(((rdOf ByteArray.empty y393 (Go.bits .and .i64 a2 3))++(⟨#[60,114]⟩ : ByteArray))++(rdOf ByteArray.empty y393 (Go.bits .and .i64 a2 3))).size+7≤9223372036854775807 then(if((((rdOf ByteArray.empty y393 (Go.bits .and .i64 a2 3))++(⟨#[60,114]⟩ : ByteArray))++(rdOf ByteArray.empty y393 (Go.bits .and .i64 a2 3)))++(⟨#[32,120,61,39,49,39,62]⟩ : ByteArray)).size+(rdOf ByteArray.empty y393 (Go.bits .and .i64 a2 3)).size≤9223372036854775807 then(if(((((rdOf ByteArray.empty y393 (Go.bits .and .i64 a2 3))++(⟨#[60,114]⟩ : ByteArray))++(rdOf ByteArray.empty y393 (Go.bits .and .i64 a2 3)))++(⟨#[32,120,61,39,49,39,62]⟩ : ByteArray))++(rdOf ByteArray.empty y393 (Go.bits .and .i64 a2 3))).size+9≤9223372036854775807 then(if((((((rdOf ByteArray.empty y393 (Go.bits .and .i64 a2 3))++(⟨#[60,114]⟩ : ByteArray))++(rdOf ByteArray.empty y393 (Go.bits .and .i64 a2 3)))++(⟨#[32,120,61,39,49,39,62]⟩ : ByteArray))++(rdOf ByteArray.empty y393 (Go.bits .and .i64 a2 3)))++(⟨#[60,107,32,121,61,34,50,34,62]⟩ : ByteArray)).size+t397.size≤9223372036854775807 then(if(((((((rdOf ByteArray.empty y393 (Go.bits .and .i64 a2 3))++(⟨#[60,114]⟩ : ByteArray))++(rdOf ByteArray.empty y393 (Go.bits .and .i64 a2 3)))++(⟨#[32,120,61,39,49,39,62]⟩ : ByteArray))++(rdOf ByteArray.empty y393 (Go.bits .and .i64 a2 3)))++(⟨#[60,107,32,121,61,34,50,34,62]⟩ : ByteArray))++t397).size+3≤9223372036854775807 then(if((((((((rdOf ByteArray.empty y393 (Go.bits .and .i64 a2 3))++(⟨#[60,114]⟩ : ByteArray))++(rdOf ByteArray.empty y393 (Go.bits .and .i64 a2 3)))++(⟨#[32,120,61,39,49,39,62]⟩ : ByteArray))++(rdOf ByteArray.empty y393 (Go.bits .and .i64 a2 3)))++(⟨#[60,107,32,121,61,34,50,34,62]⟩ : ByteArray))++t397)++(⟨#[60,47,107]⟩ : ByteArray)).size+(rdOf ByteArray.empty y393 (Go.bits .and .i64 a2 3)).size≤9223372036854775807 then(if(((((((((rdOf ByteArray.empty y393 (Go.bits .and .i64 a2 3))++(⟨#[60,114]⟩ : ByteArray))++(rdOf ByteArray.empty y393 (Go.bits .and .i64 a2 3)))++(⟨#[32,120,61,39,49,39,62]⟩ : ByteArray))++(rdOf ByteArray.empty y393 (Go.bits .and .i64 a2 3)))++(⟨#[60,107,32,121,61,34,50,34,62]⟩ : ByteArray))++t397)++(⟨#[60,47,107]⟩ : ByteArray))++(rdOf ByteArray.empty y393 (Go.bits .and .i64 a2 3))).size+1≤9223372036854775807 then(if((((((((((rdOf ByteArray.empty y393 (Go.bits .and .i64 a2 3))++(⟨#[60,114]⟩ : ByteArray))++(rdOf ByteArray.empty y393 (Go.bits .and .i64 a2 3)))++(⟨#[32,120,61,39,49,39,62]⟩ : ByteArray))++(rdOf ByteArray.empty y393 (Go.bits .and .i64 a2 3)))++(⟨#[60,107,32,121,61,34,50,34,62]⟩ : ByteArray))++t397)++(⟨#[60,47,107]⟩ : ByteArray))++(rdOf ByteArray.empty y393 (Go.bits .and .i64 a2 3)))++(⟨#[62]⟩ : ByteArray)).size+(rdOf ByteArray.empty y393 (Go.bits .and .i64 a2 3)).size≤9223372036854775807 then(if(((((((((((rdOf ByteArray.empty y393 (Go.bits .and .i64 a2 3))++(⟨#[60,114]⟩ : ByteArray))++(rdOf ByteArray.empty y393 (Go.bits .and .i64 a2 3)))++(⟨#[32,120,61,39,49,39,62]⟩ : ByteArray))++(rdOf ByteArray.empty y393 (Go.bits .and .i64 a2 3)))++(⟨#[60,107,32,121,61,34,50,34,62]⟩ : ByteArray))++t397)++(⟨#[60,47,107]⟩ : ByteArray))++(rdOf ByteArray.empty y393 (Go.bits .and .i64 a2 3)))++(⟨#[62]⟩ : ByteArray))++(rdOf ByteArray.empty y393 (Go.bits .and .i64 a2 3))).size+3≤9223372036854775807 then(if((((((((((((rdOf ByteArray.empty y393 (Go.bits .and .i64 a2 3))++(⟨#[60,114]⟩ : ByteArray))++(rdOf ByteArray.empty y393 (Go.bits .and .i64 a2 3)))++(⟨#[32,120,61,39,49,39,62]⟩ : ByteArray))++(rdOf ByteArray.empty y393 (Go.bits .and .i64 a2 3)))++(⟨#[60,107,32,121,61,34,50,34,62]⟩ : ByteArray))++t397)++(⟨#[60,47,107]⟩ : ByteArray))++(rdOf ByteArray.empty y393 (Go.bits .and .i64 a2 3)))++(⟨#[62]⟩ : ByteArray))++(rdOf ByteArray.empty y393 (Go.bits .and .i64 a2 3)))++(⟨#[60,118,62]⟩ : ByteArray)).size+t398.size≤9223372036854775807 then(if(((((((((((((rdOf ByteArray.empty y393 (Go.bits .and .i64 a2 3))++(⟨#[60,114]⟩ : ByteArray))++(rdOf ByteArray.empty y393 (Go.bits .and .i64 a2 3)))++(⟨#[32,120,61,39,49,39,62]⟩ : ByteArray))++(rdOf ByteArray.empty y393 (Go.bits .and .i64 a2 3)))++(⟨#[60,107,32,121,61,34,50,34,62]⟩ : ByteArray))++t397)++(⟨#[60,47,107]⟩ : ByteArray))++(rdOf ByteArray.empty y393 (Go.bits .and .i64 a2 3)))++(⟨#[62]⟩ : ByteArray))++(rdOf ByteArray.empty y393 (Go.bits .and .i64 a2 3)))++(⟨#[60,118,62]⟩ : ByteArray))++t398).size+4≤9223372036854775807 then(if((((((((((((((rdOf ByteArray.empty y393 (Go.bits .and .i64 a2 3))++(⟨#[60,114]⟩ : ByteArray))++(rdOf ByteArray.empty y393 (Go.bits .and .i64 a2 3)))++(⟨#[32,120,61,39,49,39,62]⟩ : ByteArray))++(rdOf ByteArray.empty y393 (Go.bits .and .i64 a2 3)))++(⟨#[60,107,32,121,61,34,50,34,62]⟩ : ByteArray))++t397)++(⟨#[60,47,107]⟩ : ByteArray))++(rdOf ByteArray.empty y393 (Go.bits .and .i64 a2 3)))++(⟨#[62]⟩ : ByteArray))++(rdOf ByteArray.empty y393 (Go.bits .and .i64 a2 3)))++(⟨#[60,118,62]⟩ : ByteArray))++t398)++(⟨#[60,47,118,62]⟩ : ByteArray)).size+(rdOf ByteArray.empty y393 (Go.bits .and .i64 a2 3)).size≤9223372036854775807 then(if(((((((((((((((rdOf ByteArray.empty y393 (Go.bits .and .i64 a2 3))++(⟨#[60,114]⟩ : ByteArray))++(rdOf ByteArray.empty y393 (Go.bits .and .i64 a2 3)))++(⟨#[32,120,61,39,49,39,62]⟩ : ByteArray))++(rdOf ByteArray.empty y393 (Go.bits .and .i64 a2 3)))++(⟨#[60,107,32,121,61,34,50,34,62]⟩ : ByteArray))++t397)++(⟨#[60,47,107]⟩ : ByteArray))++(rdOf ByteArray.empty y393 (Go.bits .and .i64 a2 3)))++(⟨#[62]⟩ : ByteArray))++(rdOf ByteArray.empty y393 (Go.bits .and .i64 a2 3)))++(⟨#[60,118,62]⟩ : ByteArray))++t398)++(⟨#[60,47,118,62]⟩ : ByteArray))++(rdOf ByteArray.empty y393 (Go.bits .and .i64 a2 3))).size+2≤9223372036854775807 then(if((((((((((((((((rdOf ByteArray.empty y393 (Go.bits .and .i64 a2 3))++(⟨#[60,114]⟩ : ByteArray))++(rdOf ByteArray.empty y393 (Go.bits .and .i64 a2 3)))++(⟨#[32,120,61,39,49,39,62]⟩ : ByteArray))++(rdOf ByteArray.empty y393 (Go.bits .and .i64 a2 3)))++(⟨#[60,107,32,121,61,34,50,34,62]⟩ : ByteArray))++t397)++(⟨#[60,47,107]⟩ : ByteArray))++(rdOf ByteArray.empty y393 (Go.bits .and .i64 a2 3)))++(⟨#[62]⟩ : ByteArray))++(rdOf ByteArray.empty y393 (Go.bits .and .i64 a2 3)))++(⟨#[60,118,62]⟩ : ByteArray))++t398)++(⟨#[60,47,118,62]⟩ : ByteArray))++(rdOf ByteArray.empty y393 (Go.bits .and .i64 a2 3)))++(⟨#[60,122]⟩ : ByteArray)).size+(rdOf ByteArray.empty y393 (Go.bits .and .i64 a2 3)).size≤9223372036854775807 then(if(((((((((((((((((rdOf ByteArray.empty y393 (Go.bits .and .i64 a2 3))++(⟨#[60,114]⟩ : ByteArray))++(rdOf ByteArray.empty y393 (Go.bits .and .i64 a2 3)))++(⟨#[32,120,61,39,49,39,62]⟩ : ByteArray))++(rdOf ByteArray.empty y393 (Go.bits .and .i64 a2 3)))++(⟨#[60,107,32,121,61,34,50,34,62]⟩ : ByteArray))++t397)++(⟨#[60,47,107]⟩ : ByteArray))++(rdOf ByteArray.empty y393 (Go.bits .and .i64 a2 3)))++(⟨#[62]⟩ : ByteArray))++(rdOf ByteArray.empty y393 (Go.bits .and .i64 a2 3)))++(⟨#[60,118,62]⟩ : ByteArray))++t398)++(⟨#[60,47,118,62]⟩ : ByteArray))++(rdOf ByteArray.empty y393 (Go.bits .and .i64 a2 3)))++(⟨#[60,122]⟩ : ByteArray))++(rdOf ByteArray.empty y393 (Go.bits .and .i64 a2 3))).size+2≤9223372036854775807 then(if((((((((((((((((((rdOf ByteArray.empty y393 (Go.bits .and .i64 a2 3))++(⟨#[60,114]⟩ : ByteArray))++(rdOf ByteArray.empty y393 (Go.bits .and .i64 a2 3)))++(⟨#[32,120,61,39,49,39,62]⟩ : ByteArray))++(rdOf ByteArray.empty y393 (Go.bits .and .i64 a2 3)))++(⟨#[60,107,32,121,61,34,50,34,62]⟩ : ByteArray))++t397)++(⟨#[60,47,107]⟩ : ByteArray))++(rdOf ByteArray.empty y393 (Go.bits .and .i64 a2 3)))++(⟨#[62]⟩ : ByteArray))++(rdOf ByteArray.empty y393 (Go.bits .and .i64 a2 3)))++(⟨#[60,118,62]⟩ : ByteArray))++t398)++(⟨#[60,47,118,62]⟩ : ByteArray))++(rdOf ByteArray.empty y393 (Go.bits .and .i64 a2 3)))++(⟨#[60,122]⟩ : ByteArray))++(rdOf ByteArray.empty y393 (Go.bits .and .i64 a2 3)))++(⟨#[47,62]⟩ : ByteArray)).size+(rdOf ByteArray.empty y393 (Go.bits .and .i64 a2 3)).size≤9223372036854775807 then(if(((((((((((((((((((rdOf ByteArray.empty y393 (Go.bits .and .i64 a2 3))++(⟨#[60,114]⟩ : ByteArray))++(rdOf ByteArray.empty y393 (Go.bits .and .i64 a2 3)))++(⟨#[32,120,61,39,49,39,62]⟩ : ByteArray))++(rdOf ByteArray.empty y393 (Go.bits .and .i64 a2 3)))++(⟨#[60,107,32,121,61,34,50,34,62]⟩ : ByteArray))++t397)++(⟨#[60,47,107]⟩ : ByteArray))++(rdOf ByteArray.empty y393 (Go.bits .and .i64 a2 3)))++(⟨#[62]⟩ : ByteArray))++(rdOf ByteArray.empty y393 (Go.bits .and .i64 a2 3)))++(⟨#[60,118,62]⟩ : ByteArray))++t398)++(⟨#[60,47,118,62]⟩ : ByteArray))++(rdOf ByteArray.empty y393 (Go.bits .and .i64 a2 3)))++(⟨#[60,122]⟩ : ByteArray))++(rdOf ByteArray.empty y393 (Go.bits .and .i64 a2 3)))++(⟨#[47,62]⟩ : ByteArray))++(rdOf ByteArray.empty y393 (Go.bits .and .i64 a2 3))).size+4≤9223372036854775807 then(if((((((((((((((((((((rdOf ByteArray.empty y393 (Go.bits .and .i64 a2 3))++(⟨#[60,114]⟩ : ByteArray))++(rdOf ByteArray.empty y393 (Go.bits .and .i64 a2 3)))++(⟨#[32,120,61,39,49,39,62]⟩ : ByteArray))++(rdOf ByteArray.empty y393 (Go.bits .and .i64 a2 3)))++(⟨#[60,107,32,121,61,34,50,34,62]⟩ : ByteArray))++t397)++(⟨#[60,47,107]⟩ : ByteArray))++(rdOf ByteArray.empty y393 (Go.bits .and .i64 a2 3)))++(⟨#[62]⟩ : ByteArray))++(rdOf ByteArray.empty y393 (Go.bits .and .i64 a2 3)))++(⟨#[60,118,62]⟩ : ByteArray))++t398)++(⟨#[60,47,118,62]⟩ : ByteArray))++(rdOf ByteArray.empty y393 (Go.bits .and .i64 a2 3)))++(⟨#[60,122]⟩ : ByteArray))++(rdOf ByteArray.empty y393 (Go.bits .and .i64 a2 3)))++(⟨#[47,62]⟩ : ByteArray))++(rdOf ByteArray.empty y393 (Go.bits .and .i64 a2 3)))++(⟨#[60,47,114,62]⟩ : ByteArray)).size+(rdOf ByteArray.empty y393 (Go.bits .and .i64 a2 3)).size≤9223372036854775807 then((xml_Parse.f k (((((((((((((((((((((rdOf ByteArray.empty y393 (Go.bits .and .i64 a2 3))++(⟨#[60,114]⟩ : ByteArray))++(rdOf ByteArray.empty y393 (Go.bits .and .i64 a2 3)))++(⟨#[32,120,61,39,49,39,62]⟩ : ByteArray))++(rdOf ByteArray.empty y393 (Go.bits .and .i64 a2 3)))++(⟨#[60,107,32,121,61,34,50,34,62]⟩ : ByteArray))++t397)++(⟨#[60,47,107]⟩ : ByteArray))++(rdOf ByteArray.empty y393 (Go.bits .and .i64 a2 3)))++(⟨#[62]⟩ : ByteArray))++(rdOf ByteArray.empty y393 (Go.bits .and .i64 a2 3)))++(⟨#[60,118,62]⟩ : ByteArray))++t398)++(⟨#[60,47,118,62]⟩ : ByteArray))++(rdOf ByteArray.empty y393 (Go.bits .and .i64 a2 3)))++(⟨#[60,122]⟩ : ByteArray))++(rdOf ByteArray.empty y393 (Go.bits .and .i64 a2 3)))++(⟨#[47,62]⟩ : ByteArray))++(rdOf ByteArray.empty y393 (Go.bits .and .i64 a2 3)))++(⟨#[60,47,114,62]⟩ : ByteArray))++(rdOf ByteArray.empty y393 (Go.bits .and .i64 a2 3)))).bind fun bt406=>(if bt399.2.2.2=bt406.2.2.2 then(stowagelaw13_XmlWhite.j0 k bt399.2.2.2 bt406.2.2.2 (bt399.2.2.2 != 0) bt399.1 bt399.2.1 bt399.2.2.1 bt406.1 bt406.2.1 bt406.2.2.1) else(stowagelaw13_XmlWhite.j0 k bt399.2.2.2 bt406.2.2.2 true bt399.1 bt399.2.1 bt399.2.2.1 bt406.1 bt406.2.1 bt406.2.2.1))) else(none)) else(none)) else(none)) else(none)) else(none)) else(none)) else(none)) else(none)) else(none)) else(none)) else(none)) else(none)) else(none)) else(none)) else(none)) else(none)) else(none)) else(none)) else(none)) else(none))) else(none)) else(none)) else(none)) else(none)))) else(none)) else(none))=some r:=by first|(rw [hy393];with_reducible exact H)|(have H2_:=(Option.bind_some _ _).symm.trans H;rw [hy393];with_reducible exact H2_)|(have H2_:=(Option.bind_some _ _).symm.trans H;with_reducible exact H2_)|with_reducible exact H|(rw [hy393];exact H)|exact H
  have Ny393:=Aside0.mk hy393
  clear hy393
  replace H:=itO H
  rcases H with⟨c7,H⟩|⟨c7,H⟩
  ·skip
   have c7b0:decide (0≤(Go.bits .and .i64 a2 3))=true:=decide_eq_true c7
   clear c7
   replace H:=itO H
   rcases H with⟨c8,H⟩|⟨c8,H⟩
   ·skip
    have c8b0:decide ((Go.bits .and .i64 a2 3)<(y393.length:Int))=true:=decide_eq_true c8
    clear c8
    replace H:=bndO H
    obtain⟨t397,A90,H⟩:=H
    have A9:=Aside0.mk A90
    clear A90
    replace H:=bndO H
    obtain⟨t398,A100,H⟩:=H
    have A10:=Aside0.mk A100
    clear A100
    replace H:=itO H
    rcases H with⟨c11,H⟩|⟨c11,H⟩
    ·skip
     have c11b0:=eq_true c11
     have c11b1:=decide_eq_true c11
     try have c11b2:=eq_false (Nat.not_lt.2 c11)
     try (have c11n:6+t397.size≤9223372036854775807:=by have h_:=c11;simp only [ByteArray.size_append,ByteArray.size_extract] at h_;exact h_)
     try have c11f:(9223372036854775807<6+t397.size)=False:=eq_false (by first|omega|(simp only [eq_iff_iff,iff_true] at *;omega))
     replace H:=itO H
     rcases H with⟨c12,H⟩|⟨c12,H⟩
     ·skip
      have c12b0:=eq_true c12
      have c12b1:=decide_eq_true c12
      try have c12b2:=eq_false (Nat.not_lt.2 c12)
      try (have c12n:6+t397.size+7≤9223372036854775807:=by have h_:=c12;simp only [ByteArray.size_append,ByteArray.size_extract] at h_;exact h_)
      try have c12f:(9223372036854775807<6+t397.size+7)=False:=eq_false (by first|omega|(simp only [eq_iff_iff,iff_true] at *;omega))
      replace H:=itO H
      rcases H with⟨c13,H⟩|⟨c13,H⟩
      ·skip
       have c13b0:=eq_true c13
       have c13b1:=decide_eq_true c13
       try have c13b2:=eq_false (Nat.not_lt.2 c13)
       try (have c13n:6+t397.size+7+t398.size≤9223372036854775807:=by have h_:=c13;simp only [ByteArray.size_append,ByteArray.size_extract] at h_;exact h_)
       try have c13f:(9223372036854775807<6+t397.size+7+t398.size)=False:=eq_false (by first|omega|(simp only [eq_iff_iff,iff_true] at *;omega))
       replace H:=itO H
       rcases H with⟨c14,H⟩|⟨c14,H⟩
       ·skip
        have c14b0:=eq_true c14
        have c14b1:=decide_eq_true c14
        try have c14b2:=eq_false (Nat.not_lt.2 c14)
        try (have c14n:6+t397.size+7+t398.size+15≤9223372036854775807:=by have h_:=c14;simp only [ByteArray.size_append,ByteArray.size_extract] at h_;exact h_)
        try have c14f:(9223372036854775807<6+t397.size+7+t398.size+15)=False:=eq_false (by first|omega|(simp only [eq_iff_iff,iff_true] at *;omega))
        replace H:=bndO H
        obtain⟨⟨t399,t400,t401,t404⟩,A150,H⟩:=H
        dsimp only at H
        have A15:=Aside0.mk A150
        clear A150
        replace H:=itO H
        rcases H with⟨c16,H⟩|⟨c16,H⟩
        ·skip
         have c16b0:=eq_true c16
         have c16b1:=decide_eq_true c16
         try have c16b2:=eq_false (Nat.not_lt.2 c16)
         try (have c16n:(rdOf ByteArray.empty y393 (Go.bits .and .i64 a2 3)).size+2≤9223372036854775807:=by have h_:=c16;simp only [ByteArray.size_append,ByteArray.size_extract] at h_;exact h_)
         try have c16f:(9223372036854775807<(rdOf ByteArray.empty y393 (Go.bits .and .i64 a2 3)).size+2)=False:=eq_false (by first|omega|(simp only [eq_iff_iff,iff_true] at *;omega))
         replace H:=itO H
         rcases H with⟨c17,H⟩|⟨c17,H⟩
         ·skip
          have c17b0:=eq_true c17
          have c17b1:=decide_eq_true c17
          try have c17b2:=eq_false (Nat.not_lt.2 c17)
          try (have c17n:(rdOf ByteArray.empty y393 (Go.bits .and .i64 a2 3)).size+2+(rdOf ByteArray.empty y393 (Go.bits .and .i64 a2 3)).size≤9223372036854775807:=by have h_:=c17;simp only [ByteArray.size_append,ByteArray.size_extract] at h_;exact h_)
          try have c17f:(9223372036854775807<(rdOf ByteArray.empty y393 (Go.bits .and .i64 a2 3)).size+2+(rdOf ByteArray.empty y393 (Go.bits .and .i64 a2 3)).size)=False:=eq_false (by first|omega|(simp only [eq_iff_iff,iff_true] at *;omega))
          replace H:=itO H
          rcases H with⟨c18,H⟩|⟨c18,H⟩
          ·skip
           have c18b0:=eq_true c18
           have c18b1:=decide_eq_true c18
           try have c18b2:=eq_false (Nat.not_lt.2 c18)
           try (have c18n:(rdOf ByteArray.empty y393 (Go.bits .and .i64 a2 3)).size+2+(rdOf ByteArray.empty y393 (Go.bits .and .i64 a2 3)).size+7≤9223372036854775807:=by have h_:=c18;simp only [ByteArray.size_append,ByteArray.size_extract] at h_;exact h_)
           try have c18f:(9223372036854775807<(rdOf ByteArray.empty y393 (Go.bits .and .i64 a2 3)).size+2+(rdOf ByteArray.empty y393 (Go.bits .and .i64 a2 3)).size+7)=False:=eq_false (by first|omega|(simp only [eq_iff_iff,iff_true] at *;omega))
           replace H:=itO H
           rcases H with⟨c19,H⟩|⟨c19,H⟩
           ·skip
            have c19b0:=eq_true c19
            have c19b1:=decide_eq_true c19
            try have c19b2:=eq_false (Nat.not_lt.2 c19)
            try (have c19n:(rdOf ByteArray.empty y393 (Go.bits .and .i64 a2 3)).size+2+(rdOf ByteArray.empty y393 (Go.bits .and .i64 a2 3)).size+7+(rdOf ByteArray.empty y393 (Go.bits .and .i64 a2 3)).size≤9223372036854775807:=by have h_:=c19;simp only [ByteArray.size_append,ByteArray.size_extract] at h_;exact h_)
            try have c19f:(9223372036854775807<(rdOf ByteArray.empty y393 (Go.bits .and .i64 a2 3)).size+2+(rdOf ByteArray.empty y393 (Go.bits .and .i64 a2 3)).size+7+(rdOf ByteArray.empty y393 (Go.bits .and .i64 a2 3)).size)=False:=eq_false (by first|omega|(simp only [eq_iff_iff,iff_true] at *;omega))
            replace H:=itO H
            rcases H with⟨c20,H⟩|⟨c20,H⟩
            ·skip
             have c20b0:=eq_true c20
             have c20b1:=decide_eq_true c20
             try have c20b2:=eq_false (Nat.not_lt.2 c20)
             try (have c20n:(rdOf ByteArray.empty y393 (Go.bits .and .i64 a2 3)).size+2+(rdOf ByteArray.empty y393 (Go.bits .and .i64 a2 3)).size+7+(rdOf ByteArray.empty y393 (Go.bits .and .i64 a2 3)).size+9≤9223372036854775807:=by have h_:=c20;simp only [ByteArray.size_append,ByteArray.size_extract] at h_;exact h_)
             try have c20f:(9223372036854775807<(rdOf ByteArray.empty y393 (Go.bits .and .i64 a2 3)).size+2+(rdOf ByteArray.empty y393 (Go.bits .and .i64 a2 3)).size+7+(rdOf ByteArray.empty y393 (Go.bits .and .i64 a2 3)).size+9)=False:=eq_false (by first|omega|(simp only [eq_iff_iff,iff_true] at *;omega))
             replace H:=itO H
             rcases H with⟨c21,H⟩|⟨c21,H⟩
             ·skip
              have c21b0:=eq_true c21
              have c21b1:=decide_eq_true c21
              try have c21b2:=eq_false (Nat.not_lt.2 c21)
              try (have c21n:(rdOf ByteArray.empty y393 (Go.bits .and .i64 a2 3)).size+2+(rdOf ByteArray.empty y393 (Go.bits .and .i64 a2 3)).size+7+(rdOf ByteArray.empty y393 (Go.bits .and .i64 a2 3)).size+9+t397.size≤9223372036854775807:=by have h_:=c21;simp only [ByteArray.size_append,ByteArray.size_extract] at h_;exact h_)
              try have c21f:(9223372036854775807<(rdOf ByteArray.empty y393 (Go.bits .and .i64 a2 3)).size+2+(rdOf ByteArray.empty y393 (Go.bits .and .i64 a2 3)).size+7+(rdOf ByteArray.empty y393 (Go.bits .and .i64 a2 3)).size+9+t397.size)=False:=eq_false (by first|omega|(simp only [eq_iff_iff,iff_true] at *;omega))
              replace H:=itO H
              rcases H with⟨c22,H⟩|⟨c22,H⟩
              ·skip
               have c22b0:=eq_true c22
               have c22b1:=decide_eq_true c22
               try have c22b2:=eq_false (Nat.not_lt.2 c22)
               try (have c22n:(rdOf ByteArray.empty y393 (Go.bits .and .i64 a2 3)).size+2+(rdOf ByteArray.empty y393 (Go.bits .and .i64 a2 3)).size+7+(rdOf ByteArray.empty y393 (Go.bits .and .i64 a2 3)).size+9+t397.size+3≤9223372036854775807:=by have h_:=c22;simp only [ByteArray.size_append,ByteArray.size_extract] at h_;exact h_)
               try have c22f:(9223372036854775807<(rdOf ByteArray.empty y393 (Go.bits .and .i64 a2 3)).size+2+(rdOf ByteArray.empty y393 (Go.bits .and .i64 a2 3)).size+7+(rdOf ByteArray.empty y393 (Go.bits .and .i64 a2 3)).size+9+t397.size+3)=False:=eq_false (by first|omega|(simp only [eq_iff_iff,iff_true] at *;omega))
               replace H:=itO H
               rcases H with⟨c23,H⟩|⟨c23,H⟩
               ·skip
                have c23b0:=eq_true c23
                have c23b1:=decide_eq_true c23
                try have c23b2:=eq_false (Nat.not_lt.2 c23)
                try (have c23n:(rdOf ByteArray.empty y393 (Go.bits .and .i64 a2 3)).size+2+(rdOf ByteArray.empty y393 (Go.bits .and .i64 a2 3)).size+7+(rdOf ByteArray.empty y393 (Go.bits .and .i64 a2 3)).size+9+t397.size+3+(rdOf ByteArray.empty y393 (Go.bits .and .i64 a2 3)).size≤9223372036854775807:=by have h_:=c23;simp only [ByteArray.size_append,ByteArray.size_extract] at h_;exact h_)
                try have c23f:(9223372036854775807<(rdOf ByteArray.empty y393 (Go.bits .and .i64 a2 3)).size+2+(rdOf ByteArray.empty y393 (Go.bits .and .i64 a2 3)).size+7+(rdOf ByteArray.empty y393 (Go.bits .and .i64 a2 3)).size+9+t397.size+3+(rdOf ByteArray.empty y393 (Go.bits .and .i64 a2 3)).size)=False:=eq_false (by first|omega|(simp only [eq_iff_iff,iff_true] at *;omega))
                replace H:=itO H
                rcases H with⟨c24,H⟩|⟨c24,H⟩
                ·skip
                 have c24b0:=eq_true c24
                 have c24b1:=decide_eq_true c24
                 try have c24b2:=eq_false (Nat.not_lt.2 c24)
                 try (have c24n:(rdOf ByteArray.empty y393 (Go.bits .and .i64 a2 3)).size+2+(rdOf ByteArray.empty y393 (Go.bits .and .i64 a2 3)).size+7+(rdOf ByteArray.empty y393 (Go.bits .and .i64 a2 3)).size+9+t397.size+3+(rdOf ByteArray.empty y393 (Go.bits .and .i64 a2 3)).size+1≤9223372036854775807:=by have h_:=c24;simp only [ByteArray.size_append,ByteArray.size_extract] at h_;exact h_)
                 try have c24f:(9223372036854775807<(rdOf ByteArray.empty y393 (Go.bits .and .i64 a2 3)).size+2+(rdOf ByteArray.empty y393 (Go.bits .and .i64 a2 3)).size+7+(rdOf ByteArray.empty y393 (Go.bits .and .i64 a2 3)).size+9+t397.size+3+(rdOf ByteArray.empty y393 (Go.bits .and .i64 a2 3)).size+1)=False:=eq_false (by first|omega|(simp only [eq_iff_iff,iff_true] at *;omega))
                 replace H:=itO H
                 rcases H with⟨c25,H⟩|⟨c25,H⟩
                 ·skip
                  have c25b0:=eq_true c25
                  have c25b1:=decide_eq_true c25
                  try have c25b2:=eq_false (Nat.not_lt.2 c25)
                  try (have c25n:(rdOf ByteArray.empty y393 (Go.bits .and .i64 a2 3)).size+2+(rdOf ByteArray.empty y393 (Go.bits .and .i64 a2 3)).size+7+(rdOf ByteArray.empty y393 (Go.bits .and .i64 a2 3)).size+9+t397.size+3+(rdOf ByteArray.empty y393 (Go.bits .and .i64 a2 3)).size+1+(rdOf ByteArray.empty y393 (Go.bits .and .i64 a2 3)).size≤9223372036854775807:=by have h_:=c25;simp only [ByteArray.size_append,ByteArray.size_extract] at h_;exact h_)
                  try have c25f:(9223372036854775807<(rdOf ByteArray.empty y393 (Go.bits .and .i64 a2 3)).size+2+(rdOf ByteArray.empty y393 (Go.bits .and .i64 a2 3)).size+7+(rdOf ByteArray.empty y393 (Go.bits .and .i64 a2 3)).size+9+t397.size+3+(rdOf ByteArray.empty y393 (Go.bits .and .i64 a2 3)).size+1+(rdOf ByteArray.empty y393 (Go.bits .and .i64 a2 3)).size)=False:=eq_false (by first|omega|(simp only [eq_iff_iff,iff_true] at *;omega))
                  replace H:=itO H
                  rcases H with⟨c26,H⟩|⟨c26,H⟩
                  ·skip
                   have c26b0:=eq_true c26
                   have c26b1:=decide_eq_true c26
                   try have c26b2:=eq_false (Nat.not_lt.2 c26)
                   try (have c26n:(rdOf ByteArray.empty y393 (Go.bits .and .i64 a2 3)).size+2+(rdOf ByteArray.empty y393 (Go.bits .and .i64 a2 3)).size+7+(rdOf ByteArray.empty y393 (Go.bits .and .i64 a2 3)).size+9+t397.size+3+(rdOf ByteArray.empty y393 (Go.bits .and .i64 a2 3)).size+1+(rdOf ByteArray.empty y393 (Go.bits .and .i64 a2 3)).size+3≤9223372036854775807:=by have h_:=c26;simp only [ByteArray.size_append,ByteArray.size_extract] at h_;exact h_)
                   try have c26f:(9223372036854775807<(rdOf ByteArray.empty y393 (Go.bits .and .i64 a2 3)).size+2+(rdOf ByteArray.empty y393 (Go.bits .and .i64 a2 3)).size+7+(rdOf ByteArray.empty y393 (Go.bits .and .i64 a2 3)).size+9+t397.size+3+(rdOf ByteArray.empty y393 (Go.bits .and .i64 a2 3)).size+1+(rdOf ByteArray.empty y393 (Go.bits .and .i64 a2 3)).size+3)=False:=eq_false (by first|omega|(simp only [eq_iff_iff,iff_true] at *;omega))
                   replace H:=itO H
                   rcases H with⟨c27,H⟩|⟨c27,H⟩
                   ·skip
                    have c27b0:=eq_true c27
                    have c27b1:=decide_eq_true c27
                    try have c27b2:=eq_false (Nat.not_lt.2 c27)
                    try (have c27n:(rdOf ByteArray.empty y393 (Go.bits .and .i64 a2 3)).size+2+(rdOf ByteArray.empty y393 (Go.bits .and .i64 a2 3)).size+7+(rdOf ByteArray.empty y393 (Go.bits .and .i64 a2 3)).size+9+t397.size+3+(rdOf ByteArray.empty y393 (Go.bits .and .i64 a2 3)).size+1+(rdOf ByteArray.empty y393 (Go.bits .and .i64 a2 3)).size+3+t398.size≤9223372036854775807:=by have h_:=c27;simp only [ByteArray.size_append,ByteArray.size_extract] at h_;exact h_)
                    try have c27f:(9223372036854775807<(rdOf ByteArray.empty y393 (Go.bits .and .i64 a2 3)).size+2+(rdOf ByteArray.empty y393 (Go.bits .and .i64 a2 3)).size+7+(rdOf ByteArray.empty y393 (Go.bits .and .i64 a2 3)).size+9+t397.size+3+(rdOf ByteArray.empty y393 (Go.bits .and .i64 a2 3)).size+1+(rdOf ByteArray.empty y393 (Go.bits .and .i64 a2 3)).size+3+t398.size)=False:=eq_false (by first|omega|(simp only [eq_iff_iff,iff_true] at *;omega))
                    replace H:=itO H
                    rcases H with⟨c28,H⟩|⟨c28,H⟩
                    ·skip
                     have c28b0:=eq_true c28
                     have c28b1:=decide_eq_true c28
                     try have c28b2:=eq_false (Nat.not_lt.2 c28)
                     try (have c28n:(rdOf ByteArray.empty y393 (Go.bits .and .i64 a2 3)).size+2+(rdOf ByteArray.empty y393 (Go.bits .and .i64 a2 3)).size+7+(rdOf ByteArray.empty y393 (Go.bits .and .i64 a2 3)).size+9+t397.size+3+(rdOf ByteArray.empty y393 (Go.bits .and .i64 a2 3)).size+1+(rdOf ByteArray.empty y393 (Go.bits .and .i64 a2 3)).size+3+t398.size+4≤9223372036854775807:=by have h_:=c28;simp only [ByteArray.size_append,ByteArray.size_extract] at h_;exact h_)
                     try have c28f:(9223372036854775807<(rdOf ByteArray.empty y393 (Go.bits .and .i64 a2 3)).size+2+(rdOf ByteArray.empty y393 (Go.bits .and .i64 a2 3)).size+7+(rdOf ByteArray.empty y393 (Go.bits .and .i64 a2 3)).size+9+t397.size+3+(rdOf ByteArray.empty y393 (Go.bits .and .i64 a2 3)).size+1+(rdOf ByteArray.empty y393 (Go.bits .and .i64 a2 3)).size+3+t398.size+4)=False:=eq_false (by first|omega|(simp only [eq_iff_iff,iff_true] at *;omega))
                     replace H:=itO H
                     rcases H with⟨c29,H⟩|⟨c29,H⟩
                     ·skip
                      have c29b0:=eq_true c29
                      have c29b1:=decide_eq_true c29
                      try have c29b2:=eq_false (Nat.not_lt.2 c29)
                      try (have c29n:(rdOf ByteArray.empty y393 (Go.bits .and .i64 a2 3)).size+2+(rdOf ByteArray.empty y393 (Go.bits .and .i64 a2 3)).size+7+(rdOf ByteArray.empty y393 (Go.bits .and .i64 a2 3)).size+9+t397.size+3+(rdOf ByteArray.empty y393 (Go.bits .and .i64 a2 3)).size+1+(rdOf ByteArray.empty y393 (Go.bits .and .i64 a2 3)).size+3+t398.size+4+(rdOf ByteArray.empty y393 (Go.bits .and .i64 a2 3)).size≤9223372036854775807:=by have h_:=c29;simp only [ByteArray.size_append,ByteArray.size_extract] at h_;exact h_)
                      try have c29f:(9223372036854775807<(rdOf ByteArray.empty y393 (Go.bits .and .i64 a2 3)).size+2+(rdOf ByteArray.empty y393 (Go.bits .and .i64 a2 3)).size+7+(rdOf ByteArray.empty y393 (Go.bits .and .i64 a2 3)).size+9+t397.size+3+(rdOf ByteArray.empty y393 (Go.bits .and .i64 a2 3)).size+1+(rdOf ByteArray.empty y393 (Go.bits .and .i64 a2 3)).size+3+t398.size+4+(rdOf ByteArray.empty y393 (Go.bits .and .i64 a2 3)).size)=False:=eq_false (by first|omega|(simp only [eq_iff_iff,iff_true] at *;omega))
                      replace H:=itO H
                      rcases H with⟨c30,H⟩|⟨c30,H⟩
                      ·skip
                       have c30b0:=eq_true c30
                       have c30b1:=decide_eq_true c30
                       try have c30b2:=eq_false (Nat.not_lt.2 c30)
                       try (have c30n:(rdOf ByteArray.empty y393 (Go.bits .and .i64 a2 3)).size+2+(rdOf ByteArray.empty y393 (Go.bits .and .i64 a2 3)).size+7+(rdOf ByteArray.empty y393 (Go.bits .and .i64 a2 3)).size+9+t397.size+3+(rdOf ByteArray.empty y393 (Go.bits .and .i64 a2 3)).size+1+(rdOf ByteArray.empty y393 (Go.bits .and .i64 a2 3)).size+3+t398.size+4+(rdOf ByteArray.empty y393 (Go.bits .and .i64 a2 3)).size+2≤9223372036854775807:=by have h_:=c30;simp only [ByteArray.size_append,ByteArray.size_extract] at h_;exact h_)
                       try have c30f:(9223372036854775807<(rdOf ByteArray.empty y393 (Go.bits .and .i64 a2 3)).size+2+(rdOf ByteArray.empty y393 (Go.bits .and .i64 a2 3)).size+7+(rdOf ByteArray.empty y393 (Go.bits .and .i64 a2 3)).size+9+t397.size+3+(rdOf ByteArray.empty y393 (Go.bits .and .i64 a2 3)).size+1+(rdOf ByteArray.empty y393 (Go.bits .and .i64 a2 3)).size+3+t398.size+4+(rdOf ByteArray.empty y393 (Go.bits .and .i64 a2 3)).size+2)=False:=eq_false (by first|omega|(simp only [eq_iff_iff,iff_true] at *;omega))
                       replace H:=itO H
                       rcases H with⟨c31,H⟩|⟨c31,H⟩
                       ·skip
                        have c31b0:=eq_true c31
                        have c31b1:=decide_eq_true c31
                        try have c31b2:=eq_false (Nat.not_lt.2 c31)
                        try (have c31n:(rdOf ByteArray.empty y393 (Go.bits .and .i64 a2 3)).size+2+(rdOf ByteArray.empty y393 (Go.bits .and .i64 a2 3)).size+7+(rdOf ByteArray.empty y393 (Go.bits .and .i64 a2 3)).size+9+t397.size+3+(rdOf ByteArray.empty y393 (Go.bits .and .i64 a2 3)).size+1+(rdOf ByteArray.empty y393 (Go.bits .and .i64 a2 3)).size+3+t398.size+4+(rdOf ByteArray.empty y393 (Go.bits .and .i64 a2 3)).size+2+(rdOf ByteArray.empty y393 (Go.bits .and .i64 a2 3)).size≤9223372036854775807:=by have h_:=c31;simp only [ByteArray.size_append,ByteArray.size_extract] at h_;exact h_)
                        try have c31f:(9223372036854775807<(rdOf ByteArray.empty y393 (Go.bits .and .i64 a2 3)).size+2+(rdOf ByteArray.empty y393 (Go.bits .and .i64 a2 3)).size+7+(rdOf ByteArray.empty y393 (Go.bits .and .i64 a2 3)).size+9+t397.size+3+(rdOf ByteArray.empty y393 (Go.bits .and .i64 a2 3)).size+1+(rdOf ByteArray.empty y393 (Go.bits .and .i64 a2 3)).size+3+t398.size+4+(rdOf ByteArray.empty y393 (Go.bits .and .i64 a2 3)).size+2+(rdOf ByteArray.empty y393 (Go.bits .and .i64 a2 3)).size)=False:=eq_false (by first|omega|(simp only [eq_iff_iff,iff_true] at *;omega))
                        replace H:=itO H
                        rcases H with⟨c32,H⟩|⟨c32,H⟩
                        ·skip
                         have c32b0:=eq_true c32
                         have c32b1:=decide_eq_true c32
                         try have c32b2:=eq_false (Nat.not_lt.2 c32)
                         try (have c32n:(rdOf ByteArray.empty y393 (Go.bits .and .i64 a2 3)).size+2+(rdOf ByteArray.empty y393 (Go.bits .and .i64 a2 3)).size+7+(rdOf ByteArray.empty y393 (Go.bits .and .i64 a2 3)).size+9+t397.size+3+(rdOf ByteArray.empty y393 (Go.bits .and .i64 a2 3)).size+1+(rdOf ByteArray.empty y393 (Go.bits .and .i64 a2 3)).size+3+t398.size+4+(rdOf ByteArray.empty y393 (Go.bits .and .i64 a2 3)).size+2+(rdOf ByteArray.empty y393 (Go.bits .and .i64 a2 3)).size+2≤9223372036854775807:=by have h_:=c32;simp only [ByteArray.size_append,ByteArray.size_extract] at h_;exact h_)
                         try have c32f:(9223372036854775807<(rdOf ByteArray.empty y393 (Go.bits .and .i64 a2 3)).size+2+(rdOf ByteArray.empty y393 (Go.bits .and .i64 a2 3)).size+7+(rdOf ByteArray.empty y393 (Go.bits .and .i64 a2 3)).size+9+t397.size+3+(rdOf ByteArray.empty y393 (Go.bits .and .i64 a2 3)).size+1+(rdOf ByteArray.empty y393 (Go.bits .and .i64 a2 3)).size+3+t398.size+4+(rdOf ByteArray.empty y393 (Go.bits .and .i64 a2 3)).size+2+(rdOf ByteArray.empty y393 (Go.bits .and .i64 a2 3)).size+2)=False:=eq_false (by first|omega|(simp only [eq_iff_iff,iff_true] at *;omega))
                         replace H:=itO H
                         rcases H with⟨c33,H⟩|⟨c33,H⟩
                         ·skip
                          have c33b0:=eq_true c33
                          have c33b1:=decide_eq_true c33
                          try have c33b2:=eq_false (Nat.not_lt.2 c33)
                          try (have c33n:(rdOf ByteArray.empty y393 (Go.bits .and .i64 a2 3)).size+2+(rdOf ByteArray.empty y393 (Go.bits .and .i64 a2 3)).size+7+(rdOf ByteArray.empty y393 (Go.bits .and .i64 a2 3)).size+9+t397.size+3+(rdOf ByteArray.empty y393 (Go.bits .and .i64 a2 3)).size+1+(rdOf ByteArray.empty y393 (Go.bits .and .i64 a2 3)).size+3+t398.size+4+(rdOf ByteArray.empty y393 (Go.bits .and .i64 a2 3)).size+2+(rdOf ByteArray.empty y393 (Go.bits .and .i64 a2 3)).size+2+(rdOf ByteArray.empty y393 (Go.bits .and .i64 a2 3)).size≤9223372036854775807:=by have h_:=c33;simp only [ByteArray.size_append,ByteArray.size_extract] at h_;exact h_)
                          try have c33f:(9223372036854775807<(rdOf ByteArray.empty y393 (Go.bits .and .i64 a2 3)).size+2+(rdOf ByteArray.empty y393 (Go.bits .and .i64 a2 3)).size+7+(rdOf ByteArray.empty y393 (Go.bits .and .i64 a2 3)).size+9+t397.size+3+(rdOf ByteArray.empty y393 (Go.bits .and .i64 a2 3)).size+1+(rdOf ByteArray.empty y393 (Go.bits .and .i64 a2 3)).size+3+t398.size+4+(rdOf ByteArray.empty y393 (Go.bits .and .i64 a2 3)).size+2+(rdOf ByteArray.empty y393 (Go.bits .and .i64 a2 3)).size+2+(rdOf ByteArray.empty y393 (Go.bits .and .i64 a2 3)).size)=False:=eq_false (by first|omega|(simp only [eq_iff_iff,iff_true] at *;omega))
                          replace H:=itO H
                          rcases H with⟨c34,H⟩|⟨c34,H⟩
                          ·skip
                           have c34b0:=eq_true c34
                           have c34b1:=decide_eq_true c34
                           try have c34b2:=eq_false (Nat.not_lt.2 c34)
                           try (have c34n:(rdOf ByteArray.empty y393 (Go.bits .and .i64 a2 3)).size+2+(rdOf ByteArray.empty y393 (Go.bits .and .i64 a2 3)).size+7+(rdOf ByteArray.empty y393 (Go.bits .and .i64 a2 3)).size+9+t397.size+3+(rdOf ByteArray.empty y393 (Go.bits .and .i64 a2 3)).size+1+(rdOf ByteArray.empty y393 (Go.bits .and .i64 a2 3)).size+3+t398.size+4+(rdOf ByteArray.empty y393 (Go.bits .and .i64 a2 3)).size+2+(rdOf ByteArray.empty y393 (Go.bits .and .i64 a2 3)).size+2+(rdOf ByteArray.empty y393 (Go.bits .and .i64 a2 3)).size+4≤9223372036854775807:=by have h_:=c34;simp only [ByteArray.size_append,ByteArray.size_extract] at h_;exact h_)
                           try have c34f:(9223372036854775807<(rdOf ByteArray.empty y393 (Go.bits .and .i64 a2 3)).size+2+(rdOf ByteArray.empty y393 (Go.bits .and .i64 a2 3)).size+7+(rdOf ByteArray.empty y393 (Go.bits .and .i64 a2 3)).size+9+t397.size+3+(rdOf ByteArray.empty y393 (Go.bits .and .i64 a2 3)).size+1+(rdOf ByteArray.empty y393 (Go.bits .and .i64 a2 3)).size+3+t398.size+4+(rdOf ByteArray.empty y393 (Go.bits .and .i64 a2 3)).size+2+(rdOf ByteArray.empty y393 (Go.bits .and .i64 a2 3)).size+2+(rdOf ByteArray.empty y393 (Go.bits .and .i64 a2 3)).size+4)=False:=eq_false (by first|omega|(simp only [eq_iff_iff,iff_true] at *;omega))
                           replace H:=itO H
                           rcases H with⟨c35,H⟩|⟨c35,H⟩
                           ·skip
                            have c35b0:=eq_true c35
                            have c35b1:=decide_eq_true c35
                            try have c35b2:=eq_false (Nat.not_lt.2 c35)
                            try (have c35n:(rdOf ByteArray.empty y393 (Go.bits .and .i64 a2 3)).size+2+(rdOf ByteArray.empty y393 (Go.bits .and .i64 a2 3)).size+7+(rdOf ByteArray.empty y393 (Go.bits .and .i64 a2 3)).size+9+t397.size+3+(rdOf ByteArray.empty y393 (Go.bits .and .i64 a2 3)).size+1+(rdOf ByteArray.empty y393 (Go.bits .and .i64 a2 3)).size+3+t398.size+4+(rdOf ByteArray.empty y393 (Go.bits .and .i64 a2 3)).size+2+(rdOf ByteArray.empty y393 (Go.bits .and .i64 a2 3)).size+2+(rdOf ByteArray.empty y393 (Go.bits .and .i64 a2 3)).size+4+(rdOf ByteArray.empty y393 (Go.bits .and .i64 a2 3)).size≤9223372036854775807:=by have h_:=c35;simp only [ByteArray.size_append,ByteArray.size_extract] at h_;exact h_)
                            try have c35f:(9223372036854775807<(rdOf ByteArray.empty y393 (Go.bits .and .i64 a2 3)).size+2+(rdOf ByteArray.empty y393 (Go.bits .and .i64 a2 3)).size+7+(rdOf ByteArray.empty y393 (Go.bits .and .i64 a2 3)).size+9+t397.size+3+(rdOf ByteArray.empty y393 (Go.bits .and .i64 a2 3)).size+1+(rdOf ByteArray.empty y393 (Go.bits .and .i64 a2 3)).size+3+t398.size+4+(rdOf ByteArray.empty y393 (Go.bits .and .i64 a2 3)).size+2+(rdOf ByteArray.empty y393 (Go.bits .and .i64 a2 3)).size+2+(rdOf ByteArray.empty y393 (Go.bits .and .i64 a2 3)).size+4+(rdOf ByteArray.empty y393 (Go.bits .and .i64 a2 3)).size)=False:=eq_false (by first|omega|(simp only [eq_iff_iff,iff_true] at *;omega))
                            replace H:=bndO H
                            obtain⟨⟨t406,t407,t408,t411⟩,A360,H⟩:=H
                            dsimp only at H
                            have A36:=Aside0.mk A360
                            clear A360
                            have HC37:=Aside0.mk H
                            clear H
                            go_enter Tryd.func8,Tryd.ntmps8
                            go_upto_region 6 with(first|((with_reducible refine gate_dst (N:=21) rfl ?_);(try (refine gate_guard (by rfl) ?_;dsimp only));refine Kd.R_lit Kd.string _ 9 ?hg (N:=21) ?hd (xs:=([(⟨#[]⟩ : ByteArray),(⟨#[32]⟩ : ByteArray),(⟨#[10,9]⟩ : ByteArray),(⟨#[13,10,32,32]⟩ : ByteArray)]:List ByteArray)) (inner:=[.string (⟨#[]⟩ : ByteArray),.string (⟨#[32]⟩ : ByteArray),.string (⟨#[10,9]⟩ : ByteArray),.string (⟨#[13,10,32,32]⟩ : ByteArray)]) (ok:=fun _=>True) (okp:=fun _=>True) ?hr ?hp (fun _ hk=>hk) trivial (Below.refl _ _) (Nat.le_refl _) (by simp) ?_;(case hd=>rfl);(case hg=>rfl);(case hr=>first|(go_simp;done)|(go_simp;rfl));(case hp=>exact(Reps.one (show Kd.M Kd.string _ _ _ (⟨#[]⟩ : ByteArray) [.string (⟨#[]⟩ : ByteArray)] from rfl) (Reps.one (show Kd.M Kd.string _ _ _ (⟨#[32]⟩ : ByteArray) [.string (⟨#[32]⟩ : ByteArray)] from rfl) (Reps.one (show Kd.M Kd.string _ _ _ (⟨#[10,9]⟩ : ByteArray) [.string (⟨#[10,9]⟩ : ByteArray)] from rfl) (Reps.one (show Kd.M Kd.string _ _ _ (⟨#[13,10,32,32]⟩ : ByteArray) [.string (⟨#[13,10,32,32]⟩ : ByteArray)] from rfl) (Reps.none _ _))))));intro v394 w38 ho39 hb hg_ hnew_;clear hg_ hnew_;(first|rw [← Ny393.out] at ho39|(simp only [Int.reduceToNat] at ho39;rw [← Ny393.out] at ho39));have n0_:=Aside0.mk (Kd.R_lower ho39 (below_size (by repeat (first|(with_reducible first|exact HB.out|apply below_alloc|apply pw_below_drewN|apply below_drew1)|exact HB.out))));have n1_:=Aside0.mk (below_step (by repeat (first|(with_reducible first|exact HB.out|apply below_alloc|apply pw_below_drewN|apply below_drew1)|exact HB.out)) hb);clear HB;have HO395:=n0_;have HB:=n1_;clear n0_ n1_;clear hb ho39;obtain⟨Ao40,co40,eo40⟩:=Kd.R_slice HO395.out;subst eo40;have p396:0≤((Go.bits .and .i64 a2 3):Int):=of_decide_eq_true (by first|(with_reducible assumption)|assumption);have q396:(Go.bits .and .i64 a2 3)<(y393.length:Int):=of_decide_eq_true (by first|(with_reducible assumption)|assumption);obtain⟨ad396,e396,hx396_0⟩:=Kd.at_string (Kd.R_reads' HO395.out).2.2 (Go.bits .and .i64 a2 3) p396 q396;cases e396;replace p396:=eq_true p396;replace q396:=eq_true q396)|((with_reducible refine gate_callee (f:=19) rfl ?_);refine goesL_ (some 27) rfl rfl Tryd.func19 (by kernel_rfl) rfl #[.string a0] rfl (by(try simp only [List.map_toArray,List.map_cons,List.map_nil]);first|done|rfl|(simp only [List.length_drop,List.length_take];rfl)) ?_;(with_reducible refine(xml_Escape.calls a0 t397 _ A9.out).mono ?_);rintro e w41 ⟨rfl,hb⟩;refine⟨_,rfl,?_⟩;have n0_:=Aside0.mk (Kd.R_below (by(with_reducible repeat (first|apply Kd.R_alloc|apply Kd.R_drewN|apply Kd.R_drew));exact HO395.out) hb);have n1_:=Aside0.mk (below_step (by repeat (first|(with_reducible first|exact HB.out|apply below_alloc|apply pw_below_drewN|apply below_drew1)|exact HB.out)) hb);clear HO395;clear HB;have HO395:=n0_;have HB:=n1_;clear n0_ n1_;(try clear hb);(try clear hb2);(try clear hk);(try clear hi))|((with_reducible refine gate_callee (f:=19) rfl ?_);refine goesL_ (some 29) rfl rfl Tryd.func19 (by kernel_rfl) rfl #[.string a1] rfl (by(try simp only [List.map_toArray,List.map_cons,List.map_nil]);first|done|rfl|(simp only [List.length_drop,List.length_take];rfl)) ?_;(with_reducible refine(xml_Escape.calls a1 t398 _ A10.out).mono ?_);rintro e w42 ⟨rfl,hb⟩;refine⟨_,rfl,?_⟩;have n0_:=Aside0.mk (Kd.R_below (by(with_reducible repeat (first|apply Kd.R_alloc|apply Kd.R_drewN|apply Kd.R_drew));exact HO395.out) hb);have n1_:=Aside0.mk (below_step (by repeat (first|(with_reducible first|exact HB.out|apply below_alloc|apply pw_below_drewN|apply below_drew1)|exact HB.out)) hb);clear HO395;clear HB;have HO395:=n0_;have HB:=n1_;clear n0_ n1_;(try clear hb);(try clear hb2);(try clear hk);(try clear hi))|((with_reducible refine gate_callee (f:=10) rfl ?_);refine goesL_ (some 37) rfl rfl Tryd.func10 (by kernel_rfl) rfl #[.string (((((⟨#[60,114,62,60,107,62]⟩ : ByteArray)++t397)++(⟨#[60,47,107,62,60,118,62]⟩ : ByteArray))++t398)++(⟨#[60,47,118,62,60,122,62,60,47,122,62,60,47,114,62]⟩ : ByteArray))] rfl (by(try simp only [List.map_toArray,List.map_cons,List.map_nil]);first|done|rfl|(simp only [List.length_drop,List.length_take];rfl)) ?_;(with_reducible refine(xml_Parse.calls k (((((⟨#[60,114,62,60,107,62]⟩ : ByteArray)++t397)++(⟨#[60,47,107,62,60,118,62]⟩ : ByteArray))++t398)++(⟨#[60,47,118,62,60,122,62,60,47,122,62,60,47,114,62]⟩ : ByteArray)) t399 t400 t401 t404 _ (by first|exact hG|exact gok_below hG (by repeat (first|(with_reducible first|exact HB.out|apply below_alloc|apply pw_below_drewN|apply below_drew1)|exact HB.out))|exact gok_heap hG rfl|exact gok_drewN hG _|exact gok_below hG (by repeat (first|exact HB.out|exact HBW.out|exact Below.refl _ _|apply below_alloc|apply pw_below_drewN|apply below_drew1))) A15.out).mono ?_);rintro e w43 ⟨v402,rfl,ho0,hb⟩;refine⟨_,rfl,?_⟩;have n0_:=Aside0.mk (Kd.R_below (by(with_reducible repeat (first|apply Kd.R_alloc|apply Kd.R_drewN|apply Kd.R_drew));exact HO395.out) hb);have n1_:=Aside0.mk (Kd.V_lower (Kd.V_mono (ok':=fun k_=>some k_≠(.slice (some ad396) y393.length co40:Value).ownBlock) ho0 (fun k_ hk_=>(Kd.fresh' (Kd.R_lt (by(with_reducible repeat (first|apply Kd.R_alloc|apply Kd.R_drewN|apply Kd.R_drew));exact HO395.out)) k_ hk_))) (below_size (by repeat (first|(with_reducible first|exact HB.out|apply below_alloc|apply pw_below_drewN|apply below_drew1)|exact HB.out))));have n2_:=Aside0.mk (below_step (by repeat (first|(with_reducible first|exact HB.out|apply below_alloc|apply pw_below_drewN|apply below_drew1)|exact HB.out)) hb);clear HO395;clear HB;have HO395:=n0_;have HO403:=n1_;have HB:=n2_;clear n0_ n1_ n2_;(try clear hb);(try clear hb2);(try clear hk);(try clear hi);(try clear ho0))|((with_reducible refine gate_dst (N:=10) rfl ?_);(try (refine gate_guard (by rfl) ?_;dsimp only));refine box_event ?hg (N:=10) ?hd (cs:=#[.string (⟨#[]⟩ : ByteArray),.string (⟨#[]⟩ : ByteArray),.slice none 0 0]) (t:=24) ?hr ?_;(case hd=>rfl);(case hg=>rfl);(case hr=>first|(go_simp;done)|(go_simp;rfl));intro gb405 hg w44 hbox hb;have n0_:=Aside0.mk (Kd.R_below (by(with_reducible repeat (first|apply Kd.R_alloc|apply Kd.R_drewN|apply Kd.R_drew));exact HO395.out) hb);have n1_:=Aside0.mk (Kd.V_below (Kd.V_elderB (by(with_reducible repeat (first|apply Kd.V_alloc|apply Kd.V_drewN|apply Kd.V_drew));exact HO403.out) gb405 (Nat.le_of_eq hg.symm)) hb);have n2_:=Aside0.mk (below_step (by repeat (first|(with_reducible first|exact HB.out|apply below_alloc|apply pw_below_drewN|apply below_drew1)|exact HB.out)) hb);have n3_:=Aside0.mk (hbox);have n4_:=Aside0.mk ((by rw [hg];exact(below_size (by repeat (first|(with_reducible first|exact HB.out|apply below_alloc|apply pw_below_drewN|apply below_drew1)|exact HB.out))):w.heap.size≤gb405));have n5_:=Aside0.mk ((by rw [hg];exact(below_size (by repeat (first|(with_reducible first|exact HB.out|apply below_alloc|apply pw_below_drewN|apply below_drew1)|exact HB.out))):w.heap.size≤gb405));clear HO395;clear HO403;clear HB;have HO395:=n0_;have HO403:=n1_;have HB:=n2_;have BK405:=n3_;have GW405:=n4_;have GE405:=n5_;clear n0_ n1_ n2_ n3_ n4_ n5_;clear hb hbox hg;have hcz45_0:w44.cell? ⟨gb405,0,none⟩=some (.string (⟨#[]⟩ : ByteArray)):=(blk_cell BK405.out 0).trans rfl;have hcz45_1:w44.cell? ⟨gb405,1,none⟩=some (.string (⟨#[]⟩ : ByteArray)):=(blk_cell BK405.out 1).trans rfl;have hcz45_2:w44.cell? ⟨gb405,2,none⟩=some (.slice none 0 0):=(blk_cell BK405.out 2).trans rfl;have hfz45_0:=blk_frozen BK405.out 0;have hfz45_1:=blk_frozen BK405.out 1;have hfz45_2:=blk_frozen BK405.out 2;obtain⟨Ao46,co46,eo46⟩:=Kd.V_slice HO403.out;subst eo46)|((with_reducible refine gate_callee (f:=10) rfl ?_);refine goesL_ (some 72) rfl rfl Tryd.func10 (by kernel_rfl) rfl #[.string (((((((((((((((((((((rdOf ByteArray.empty y393 (Go.bits .and .i64 a2 3))++(⟨#[60,114]⟩ : ByteArray))++(rdOf ByteArray.empty y393 (Go.bits .and .i64 a2 3)))++(⟨#[32,120,61,39,49,39,62]⟩ : ByteArray))++(rdOf ByteArray.empty y393 (Go.bits .and .i64 a2 3)))++(⟨#[60,107,32,121,61,34,50,34,62]⟩ : ByteArray))++t397)++(⟨#[60,47,107]⟩ : ByteArray))++(rdOf ByteArray.empty y393 (Go.bits .and .i64 a2 3)))++(⟨#[62]⟩ : ByteArray))++(rdOf ByteArray.empty y393 (Go.bits .and .i64 a2 3)))++(⟨#[60,118,62]⟩ : ByteArray))++t398)++(⟨#[60,47,118,62]⟩ : ByteArray))++(rdOf ByteArray.empty y393 (Go.bits .and .i64 a2 3)))++(⟨#[60,122]⟩ : ByteArray))++(rdOf ByteArray.empty y393 (Go.bits .and .i64 a2 3)))++(⟨#[47,62]⟩ : ByteArray))++(rdOf ByteArray.empty y393 (Go.bits .and .i64 a2 3)))++(⟨#[60,47,114,62]⟩ : ByteArray))++(rdOf ByteArray.empty y393 (Go.bits .and .i64 a2 3)))] rfl (by(try simp only [List.map_toArray,List.map_cons,List.map_nil]);first|done|rfl|(simp only [List.length_drop,List.length_take];rfl)) ?_;(with_reducible refine(xml_Parse.calls k (((((((((((((((((((((rdOf ByteArray.empty y393 (Go.bits .and .i64 a2 3))++(⟨#[60,114]⟩ : ByteArray))++(rdOf ByteArray.empty y393 (Go.bits .and .i64 a2 3)))++(⟨#[32,120,61,39,49,39,62]⟩ : ByteArray))++(rdOf ByteArray.empty y393 (Go.bits .and .i64 a2 3)))++(⟨#[60,107,32,121,61,34,50,34,62]⟩ : ByteArray))++t397)++(⟨#[60,47,107]⟩ : ByteArray))++(rdOf ByteArray.empty y393 (Go.bits .and .i64 a2 3)))++(⟨#[62]⟩ : ByteArray))++(rdOf ByteArray.empty y393 (Go.bits .and .i64 a2 3)))++(⟨#[60,118,62]⟩ : ByteArray))++t398)++(⟨#[60,47,118,62]⟩ : ByteArray))++(rdOf ByteArray.empty y393 (Go.bits .and .i64 a2 3)))++(⟨#[60,122]⟩ : ByteArray))++(rdOf ByteArray.empty y393 (Go.bits .and .i64 a2 3)))++(⟨#[47,62]⟩ : ByteArray))++(rdOf ByteArray.empty y393 (Go.bits .and .i64 a2 3)))++(⟨#[60,47,114,62]⟩ : ByteArray))++(rdOf ByteArray.empty y393 (Go.bits .and .i64 a2 3))) t406 t407 t408 t411 _ (by first|exact hG|exact gok_below hG (by repeat (first|(with_reducible first|exact HB.out|apply below_alloc|apply pw_below_drewN|apply below_drew1|refine below_set ?_ GE405.out)|exact HB.out))|exact gok_heap hG rfl|exact gok_drewN hG _|exact gok_below hG (by repeat (first|exact HB.out|exact HBW.out|exact Below.refl _ _|apply below_alloc|apply pw_below_drewN|apply below_drew1))) A36.out).mono ?_);rintro e w47 ⟨v409,rfl,ho0,hb⟩;refine⟨_,rfl,?_⟩;have n0_:=Aside0.mk (Kd.R_below (by(with_reducible repeat (first|apply Kd.R_alloc|apply Kd.R_drewN|apply Kd.R_drew));exact(Kd.R_mono (Kd.R_far (p:=⟨gb405,2,none⟩) (Kd.R_far (p:=⟨gb405,1,none⟩) (Kd.R_far (p:=⟨gb405,0,none⟩) (Kd.R_types HO395.out BK405.out (by decide)) (fun _ hk=>hk.2) (.string t399)) (fun _ hk=>hk.2) (.string t400)) (fun _ hk=>hk.2) (.slice Ao46 t401.length co46)) (fun _ h_=>h_.1))) hb);have n1_:=Aside0.mk (Kd.V_below (by(with_reducible repeat (first|apply Kd.V_alloc|apply Kd.V_drewN|apply Kd.V_drew));exact(Kd.V_mono (Kd.V_far (p:=⟨gb405,2,none⟩) (Kd.V_far (p:=⟨gb405,1,none⟩) (Kd.V_far (p:=⟨gb405,0,none⟩) (Kd.V_mono HO403.out (fun k_ hk=>(⟨hk,hk.2⟩ : _∧k_≠gb405))) (fun _ hk=>hk.2) (.string t399)) (fun _ hk=>hk.2) (.string t400)) (fun _ hk=>hk.2) (.slice Ao46 t401.length co46)) (fun _ h_=>h_.1))) hb);have n2_:=Aside0.mk (Kd.V_lower (Kd.V_mono (ok':=fun k_=>some k_≠(.slice (some ad396) y393.length co40:Value).ownBlock∧k_≠gb405) ho0 (fun k_ hk_=>⟨(Kd.fresh' (Kd.R_lt (by(with_reducible repeat (first|apply Kd.R_alloc|apply Kd.R_drewN|apply Kd.R_drew));exact(Kd.R_mono (Kd.R_far (p:=⟨gb405,2,none⟩) (Kd.R_far (p:=⟨gb405,1,none⟩) (Kd.R_far (p:=⟨gb405,0,none⟩) (Kd.R_types HO395.out BK405.out (by decide)) (fun _ hk=>hk.2) (.string t399)) (fun _ hk=>hk.2) (.string t400)) (fun _ hk=>hk.2) (.slice Ao46 t401.length co46)) (fun _ h_=>h_.1)))) k_ hk_),(Kd.freshB (g:=gb405) (o:=.cells #[.string t399,.string t400,.slice Ao46 t401.length co46] 24 (0,0)) (by(with_reducible repeat (first|refine blk_drewN ?_ _|refine blk_drew ?_|refine blk_alloc ?_ _));refine blk_put (cs:=#[.string t399,.string t400,.slice none 0 0]) ?_ 2 _ rfl;(with_reducible repeat (first|refine blk_drewN ?_ _|refine blk_drew ?_|refine blk_alloc ?_ _));refine blk_put (cs:=#[.string t399,.string (⟨#[]⟩ : ByteArray),.slice none 0 0]) ?_ 1 _ rfl;(with_reducible repeat (first|refine blk_drewN ?_ _|refine blk_drew ?_|refine blk_alloc ?_ _));refine blk_put (cs:=#[.string (⟨#[]⟩ : ByteArray),.string (⟨#[]⟩ : ByteArray),.slice none 0 0]) ?_ 0 _ rfl;(with_reducible repeat (first|refine blk_drewN ?_ _|refine blk_drew ?_|refine blk_alloc ?_ _));exact BK405.out) k_ hk_)⟩)) (below_size (by repeat (first|(with_reducible first|exact HB.out|apply below_alloc|apply pw_below_drewN|apply below_drew1|refine below_set ?_ GE405.out)|exact HB.out))));have n3_:=Aside0.mk (blk_below (g:=gb405) (o:=.cells #[.string t399,.string t400,.slice Ao46 t401.length co46] 24 (0,0)) (by(with_reducible repeat (first|refine blk_drewN ?_ _|refine blk_drew ?_|refine blk_alloc ?_ _));refine blk_put (cs:=#[.string t399,.string t400,.slice none 0 0]) ?_ 2 _ rfl;(with_reducible repeat (first|refine blk_drewN ?_ _|refine blk_drew ?_|refine blk_alloc ?_ _));refine blk_put (cs:=#[.string t399,.string (⟨#[]⟩ : ByteArray),.slice none 0 0]) ?_ 1 _ rfl;(with_reducible repeat (first|refine blk_drewN ?_ _|refine blk_drew ?_|refine blk_alloc ?_ _));refine blk_put (cs:=#[.string (⟨#[]⟩ : ByteArray),.string (⟨#[]⟩ : ByteArray),.slice none 0 0]) ?_ 0 _ rfl;(with_reducible repeat (first|refine blk_drewN ?_ _|refine blk_drew ?_|refine blk_alloc ?_ _));exact BK405.out) hb);have n4_:=Aside0.mk (below_step (by repeat (first|(with_reducible first|exact HB.out|apply below_alloc|apply pw_below_drewN|apply below_drew1|refine below_set ?_ GE405.out)|exact HB.out)) hb);clear HO395;clear HO403;clear BK405;clear HB;have HO395:=n0_;have HO403:=n1_;have HO410:=n2_;have BK405:=n3_;have HB:=n4_;clear n0_ n1_ n2_ n3_ n4_;(try clear hb);(try clear hb2);(try clear hk);(try clear hi);(try clear ho0))|((with_reducible refine gate_dst (N:=12) rfl ?_);(try (refine gate_guard (by rfl) ?_;dsimp only));refine box_event ?hg (N:=12) ?hd (cs:=#[.string (⟨#[]⟩ : ByteArray),.string (⟨#[]⟩ : ByteArray),.slice none 0 0]) (t:=24) ?hr ?_;(case hd=>rfl);(case hg=>rfl);(case hr=>first|(go_simp;done)|(go_simp;rfl));intro gb412 hg w48 hbox hb;have n0_:=Aside0.mk (Kd.R_below (by(with_reducible repeat (first|apply Kd.R_alloc|apply Kd.R_drewN|apply Kd.R_drew));exact HO395.out) hb);have n1_:=Aside0.mk (Kd.V_below (Kd.V_elderB (by(with_reducible repeat (first|apply Kd.V_alloc|apply Kd.V_drewN|apply Kd.V_drew));exact HO403.out) gb412 (Nat.le_of_eq hg.symm)) hb);have n2_:=Aside0.mk (Kd.V_below (Kd.V_elderB (by(with_reducible repeat (first|apply Kd.V_alloc|apply Kd.V_drewN|apply Kd.V_drew));exact HO410.out) gb412 (Nat.le_of_eq hg.symm)) hb);have n3_:=Aside0.mk (blk_below (g:=gb405) (o:=.cells #[.string t399,.string t400,.slice Ao46 t401.length co46] 24 (0,0)) (by(with_reducible repeat (first|refine blk_drewN ?_ _|refine blk_drew ?_|refine blk_alloc ?_ _));exact BK405.out) hb);have n4_:=Aside0.mk (below_step (by repeat (first|(with_reducible first|exact HB.out|apply below_alloc|apply pw_below_drewN|apply below_drew1|refine below_set ?_ GE405.out)|exact HB.out)) hb);have n5_:=Aside0.mk (hbox);have n6_:=Aside0.mk ((by rw [hg];exact(below_size (by repeat (first|(with_reducible first|exact HB.out|apply below_alloc|apply pw_below_drewN|apply below_drew1|refine below_set ?_ GE405.out)|exact HB.out))):w.heap.size≤gb412));have n7_:=Aside0.mk ((by rw [hg];exact(below_size (by repeat (first|(with_reducible first|exact HB.out|apply below_alloc|apply pw_below_drewN|apply below_drew1|refine below_set ?_ GE405.out)|exact HB.out))):w.heap.size≤gb412));have n8_:=Aside0.mk ((by rw [hg];exact Nat.ne_of_lt (blk_lt (g:=gb405) (o:=.cells #[.string t399,.string t400,.slice Ao46 t401.length co46] 24 (0,0)) (by(with_reducible repeat (first|refine blk_drewN ?_ _|refine blk_drew ?_|refine blk_alloc ?_ _));exact BK405.out)):gb405≠gb412));have n9_:=Aside0.mk ((by rw [hg];exact Nat.ne_of_gt (blk_lt (g:=gb405) (o:=.cells #[.string t399,.string t400,.slice Ao46 t401.length co46] 24 (0,0)) (by(with_reducible repeat (first|refine blk_drewN ?_ _|refine blk_drew ?_|refine blk_alloc ?_ _));exact BK405.out)):gb412≠gb405));clear HO395;clear HO403;clear HO410;clear BK405;clear HB;have HO395:=n0_;have HO403:=n1_;have HO410:=n2_;have BK405:=n3_;have HB:=n4_;have BK412:=n5_;have GW412:=n6_;have GE412:=n7_;have NB405_412:=n8_;have NB412_405:=n9_;clear n0_ n1_ n2_ n3_ n4_ n5_ n6_ n7_ n8_ n9_;clear hb hbox hg;have hnb49:=NB412_405.out;have hnc49:=NB405_412.out;have hcz50_0:w48.cell? ⟨gb412,0,none⟩=some (.string (⟨#[]⟩ : ByteArray)):=(blk_cell BK412.out 0).trans rfl;have hcz50_1:w48.cell? ⟨gb412,1,none⟩=some (.string (⟨#[]⟩ : ByteArray)):=(blk_cell BK412.out 1).trans rfl;have hcz50_2:w48.cell? ⟨gb412,2,none⟩=some (.slice none 0 0):=(blk_cell BK412.out 2).trans rfl;have hfz50_0:=blk_frozen BK412.out 0;have hfz50_1:=blk_frozen BK412.out 1;have hfz50_2:=blk_frozen BK412.out 2;obtain⟨Ao51,co51,eo51⟩:=Kd.V_slice HO410.out;subst eo51))
                            generalize rdOf ByteArray.empty y393 (Go.bits .and .i64 a2 3)=wv at *
                            go_upto_region 7 with(first|((with_reducible refine gate_dst (N:=21) rfl ?_);(try (refine gate_guard (by rfl) ?_;dsimp only));refine Kd.R_lit Kd.string _ 9 ?hg (N:=21) ?hd (xs:=([(⟨#[]⟩ : ByteArray),(⟨#[32]⟩ : ByteArray),(⟨#[10,9]⟩ : ByteArray),(⟨#[13,10,32,32]⟩ : ByteArray)]:List ByteArray)) (inner:=[.string (⟨#[]⟩ : ByteArray),.string (⟨#[32]⟩ : ByteArray),.string (⟨#[10,9]⟩ : ByteArray),.string (⟨#[13,10,32,32]⟩ : ByteArray)]) (ok:=fun _=>True) (okp:=fun _=>True) ?hr ?hp (fun _ hk=>hk) trivial (Below.refl _ _) (Nat.le_refl _) (by simp) ?_;(case hd=>rfl);(case hg=>rfl);(case hr=>first|(go_simp;done)|(go_simp;rfl));(case hp=>exact(Reps.one (show Kd.M Kd.string _ _ _ (⟨#[]⟩ : ByteArray) [.string (⟨#[]⟩ : ByteArray)] from rfl) (Reps.one (show Kd.M Kd.string _ _ _ (⟨#[32]⟩ : ByteArray) [.string (⟨#[32]⟩ : ByteArray)] from rfl) (Reps.one (show Kd.M Kd.string _ _ _ (⟨#[10,9]⟩ : ByteArray) [.string (⟨#[10,9]⟩ : ByteArray)] from rfl) (Reps.one (show Kd.M Kd.string _ _ _ (⟨#[13,10,32,32]⟩ : ByteArray) [.string (⟨#[13,10,32,32]⟩ : ByteArray)] from rfl) (Reps.none _ _))))));intro v394 w38 ho39 hb hg_ hnew_;clear hg_ hnew_;(first|rw [← Ny393.out] at ho39|(simp only [Int.reduceToNat] at ho39;rw [← Ny393.out] at ho39));have n0_:=Aside0.mk (Kd.R_lower ho39 (below_size (by repeat (first|(with_reducible first|exact HB.out|apply below_alloc|apply pw_below_drewN|apply below_drew1)|exact HB.out))));have n1_:=Aside0.mk (below_step (by repeat (first|(with_reducible first|exact HB.out|apply below_alloc|apply pw_below_drewN|apply below_drew1)|exact HB.out)) hb);clear HB;have HO395:=n0_;have HB:=n1_;clear n0_ n1_;clear hb ho39;obtain⟨Ao40,co40,eo40⟩:=Kd.R_slice HO395.out;subst eo40;have p396:0≤((Go.bits .and .i64 a2 3):Int):=of_decide_eq_true (by first|(with_reducible assumption)|assumption);have q396:(Go.bits .and .i64 a2 3)<(y393.length:Int):=of_decide_eq_true (by first|(with_reducible assumption)|assumption);obtain⟨ad396,e396,hx396_0⟩:=Kd.at_string (Kd.R_reads' HO395.out).2.2 (Go.bits .and .i64 a2 3) p396 q396;cases e396;replace p396:=eq_true p396;replace q396:=eq_true q396)|((with_reducible refine gate_callee (f:=19) rfl ?_);refine goesL_ (some 27) rfl rfl Tryd.func19 (by kernel_rfl) rfl #[.string a0] rfl (by(try simp only [List.map_toArray,List.map_cons,List.map_nil]);first|done|rfl|(simp only [List.length_drop,List.length_take];rfl)) ?_;(with_reducible refine(xml_Escape.calls a0 t397 _ A9.out).mono ?_);rintro e w41 ⟨rfl,hb⟩;refine⟨_,rfl,?_⟩;have n0_:=Aside0.mk (Kd.R_below (by(with_reducible repeat (first|apply Kd.R_alloc|apply Kd.R_drewN|apply Kd.R_drew));exact HO395.out) hb);have n1_:=Aside0.mk (below_step (by repeat (first|(with_reducible first|exact HB.out|apply below_alloc|apply pw_below_drewN|apply below_drew1)|exact HB.out)) hb);clear HO395;clear HB;have HO395:=n0_;have HB:=n1_;clear n0_ n1_;(try clear hb);(try clear hb2);(try clear hk);(try clear hi))|((with_reducible refine gate_callee (f:=19) rfl ?_);refine goesL_ (some 29) rfl rfl Tryd.func19 (by kernel_rfl) rfl #[.string a1] rfl (by(try simp only [List.map_toArray,List.map_cons,List.map_nil]);first|done|rfl|(simp only [List.length_drop,List.length_take];rfl)) ?_;(with_reducible refine(xml_Escape.calls a1 t398 _ A10.out).mono ?_);rintro e w42 ⟨rfl,hb⟩;refine⟨_,rfl,?_⟩;have n0_:=Aside0.mk (Kd.R_below (by(with_reducible repeat (first|apply Kd.R_alloc|apply Kd.R_drewN|apply Kd.R_drew));exact HO395.out) hb);have n1_:=Aside0.mk (below_step (by repeat (first|(with_reducible first|exact HB.out|apply below_alloc|apply pw_below_drewN|apply below_drew1)|exact HB.out)) hb);clear HO395;clear HB;have HO395:=n0_;have HB:=n1_;clear n0_ n1_;(try clear hb);(try clear hb2);(try clear hk);(try clear hi))|((with_reducible refine gate_callee (f:=10) rfl ?_);refine goesL_ (some 37) rfl rfl Tryd.func10 (by kernel_rfl) rfl #[.string (((((⟨#[60,114,62,60,107,62]⟩ : ByteArray)++t397)++(⟨#[60,47,107,62,60,118,62]⟩ : ByteArray))++t398)++(⟨#[60,47,118,62,60,122,62,60,47,122,62,60,47,114,62]⟩ : ByteArray))] rfl (by(try simp only [List.map_toArray,List.map_cons,List.map_nil]);first|done|rfl|(simp only [List.length_drop,List.length_take];rfl)) ?_;(with_reducible refine(xml_Parse.calls k (((((⟨#[60,114,62,60,107,62]⟩ : ByteArray)++t397)++(⟨#[60,47,107,62,60,118,62]⟩ : ByteArray))++t398)++(⟨#[60,47,118,62,60,122,62,60,47,122,62,60,47,114,62]⟩ : ByteArray)) t399 t400 t401 t404 _ (by first|exact hG|exact gok_below hG (by repeat (first|(with_reducible first|exact HB.out|apply below_alloc|apply pw_below_drewN|apply below_drew1)|exact HB.out))|exact gok_heap hG rfl|exact gok_drewN hG _|exact gok_below hG (by repeat (first|exact HB.out|exact HBW.out|exact Below.refl _ _|apply below_alloc|apply pw_below_drewN|apply below_drew1))) A15.out).mono ?_);rintro e w43 ⟨v402,rfl,ho0,hb⟩;refine⟨_,rfl,?_⟩;have n0_:=Aside0.mk (Kd.R_below (by(with_reducible repeat (first|apply Kd.R_alloc|apply Kd.R_drewN|apply Kd.R_drew));exact HO395.out) hb);have n1_:=Aside0.mk (Kd.V_lower (Kd.V_mono (ok':=fun k_=>some k_≠(.slice (some ad396) y393.length co40:Value).ownBlock) ho0 (fun k_ hk_=>(Kd.fresh' (Kd.R_lt (by(with_reducible repeat (first|apply Kd.R_alloc|apply Kd.R_drewN|apply Kd.R_drew));exact HO395.out)) k_ hk_))) (below_size (by repeat (first|(with_reducible first|exact HB.out|apply below_alloc|apply pw_below_drewN|apply below_drew1)|exact HB.out))));have n2_:=Aside0.mk (below_step (by repeat (first|(with_reducible first|exact HB.out|apply below_alloc|apply pw_below_drewN|apply below_drew1)|exact HB.out)) hb);clear HO395;clear HB;have HO395:=n0_;have HO403:=n1_;have HB:=n2_;clear n0_ n1_ n2_;(try clear hb);(try clear hb2);(try clear hk);(try clear hi);(try clear ho0))|((with_reducible refine gate_dst (N:=10) rfl ?_);(try (refine gate_guard (by rfl) ?_;dsimp only));refine box_event ?hg (N:=10) ?hd (cs:=#[.string (⟨#[]⟩ : ByteArray),.string (⟨#[]⟩ : ByteArray),.slice none 0 0]) (t:=24) ?hr ?_;(case hd=>rfl);(case hg=>rfl);(case hr=>first|(go_simp;done)|(go_simp;rfl));intro gb405 hg w44 hbox hb;have n0_:=Aside0.mk (Kd.R_below (by(with_reducible repeat (first|apply Kd.R_alloc|apply Kd.R_drewN|apply Kd.R_drew));exact HO395.out) hb);have n1_:=Aside0.mk (Kd.V_below (Kd.V_elderB (by(with_reducible repeat (first|apply Kd.V_alloc|apply Kd.V_drewN|apply Kd.V_drew));exact HO403.out) gb405 (Nat.le_of_eq hg.symm)) hb);have n2_:=Aside0.mk (below_step (by repeat (first|(with_reducible first|exact HB.out|apply below_alloc|apply pw_below_drewN|apply below_drew1)|exact HB.out)) hb);have n3_:=Aside0.mk (hbox);have n4_:=Aside0.mk ((by rw [hg];exact(below_size (by repeat (first|(with_reducible first|exact HB.out|apply below_alloc|apply pw_below_drewN|apply below_drew1)|exact HB.out))):w.heap.size≤gb405));have n5_:=Aside0.mk ((by rw [hg];exact(below_size (by repeat (first|(with_reducible first|exact HB.out|apply below_alloc|apply pw_below_drewN|apply below_drew1)|exact HB.out))):w.heap.size≤gb405));clear HO395;clear HO403;clear HB;have HO395:=n0_;have HO403:=n1_;have HB:=n2_;have BK405:=n3_;have GW405:=n4_;have GE405:=n5_;clear n0_ n1_ n2_ n3_ n4_ n5_;clear hb hbox hg;have hcz45_0:w44.cell? ⟨gb405,0,none⟩=some (.string (⟨#[]⟩ : ByteArray)):=(blk_cell BK405.out 0).trans rfl;have hcz45_1:w44.cell? ⟨gb405,1,none⟩=some (.string (⟨#[]⟩ : ByteArray)):=(blk_cell BK405.out 1).trans rfl;have hcz45_2:w44.cell? ⟨gb405,2,none⟩=some (.slice none 0 0):=(blk_cell BK405.out 2).trans rfl;have hfz45_0:=blk_frozen BK405.out 0;have hfz45_1:=blk_frozen BK405.out 1;have hfz45_2:=blk_frozen BK405.out 2;obtain⟨Ao46,co46,eo46⟩:=Kd.V_slice HO403.out;subst eo46)|((with_reducible refine gate_callee (f:=10) rfl ?_);refine goesL_ (some 72) rfl rfl Tryd.func10 (by kernel_rfl) rfl #[.string ((((((((((((((((((((wv++(⟨#[60,114]⟩ : ByteArray))++wv)++(⟨#[32,120,61,39,49,39,62]⟩ : ByteArray))++wv)++(⟨#[60,107,32,121,61,34,50,34,62]⟩ : ByteArray))++t397)++(⟨#[60,47,107]⟩ : ByteArray))++wv)++(⟨#[62]⟩ : ByteArray))++wv)++(⟨#[60,118,62]⟩ : ByteArray))++t398)++(⟨#[60,47,118,62]⟩ : ByteArray))++wv)++(⟨#[60,122]⟩ : ByteArray))++wv)++(⟨#[47,62]⟩ : ByteArray))++wv)++(⟨#[60,47,114,62]⟩ : ByteArray))++wv)] rfl (by(try simp only [List.map_toArray,List.map_cons,List.map_nil]);first|done|rfl|(simp only [List.length_drop,List.length_take];rfl)) ?_;(with_reducible refine(xml_Parse.calls k ((((((((((((((((((((wv++(⟨#[60,114]⟩ : ByteArray))++wv)++(⟨#[32,120,61,39,49,39,62]⟩ : ByteArray))++wv)++(⟨#[60,107,32,121,61,34,50,34,62]⟩ : ByteArray))++t397)++(⟨#[60,47,107]⟩ : ByteArray))++wv)++(⟨#[62]⟩ : ByteArray))++wv)++(⟨#[60,118,62]⟩ : ByteArray))++t398)++(⟨#[60,47,118,62]⟩ : ByteArray))++wv)++(⟨#[60,122]⟩ : ByteArray))++wv)++(⟨#[47,62]⟩ : ByteArray))++wv)++(⟨#[60,47,114,62]⟩ : ByteArray))++wv) t406 t407 t408 t411 _ (by first|exact hG|exact gok_below hG (by repeat (first|(with_reducible first|exact HB.out|apply below_alloc|apply pw_below_drewN|apply below_drew1|refine below_set ?_ GE405.out)|exact HB.out))|exact gok_heap hG rfl|exact gok_drewN hG _|exact gok_below hG (by repeat (first|exact HB.out|exact HBW.out|exact Below.refl _ _|apply below_alloc|apply pw_below_drewN|apply below_drew1))) A36.out).mono ?_);rintro e w47 ⟨v409,rfl,ho0,hb⟩;refine⟨_,rfl,?_⟩;have n0_:=Aside0.mk (Kd.R_below (by(with_reducible repeat (first|apply Kd.R_alloc|apply Kd.R_drewN|apply Kd.R_drew));exact(Kd.R_mono (Kd.R_far (p:=⟨gb405,2,none⟩) (Kd.R_far (p:=⟨gb405,1,none⟩) (Kd.R_far (p:=⟨gb405,0,none⟩) (Kd.R_types HO395.out BK405.out (by decide)) (fun _ hk=>hk.2) (.string t399)) (fun _ hk=>hk.2) (.string t400)) (fun _ hk=>hk.2) (.slice Ao46 t401.length co46)) (fun _ h_=>h_.1))) hb);have n1_:=Aside0.mk (Kd.V_below (by(with_reducible repeat (first|apply Kd.V_alloc|apply Kd.V_drewN|apply Kd.V_drew));exact(Kd.V_mono (Kd.V_far (p:=⟨gb405,2,none⟩) (Kd.V_far (p:=⟨gb405,1,none⟩) (Kd.V_far (p:=⟨gb405,0,none⟩) (Kd.V_mono HO403.out (fun k_ hk=>(⟨hk,hk.2⟩ : _∧k_≠gb405))) (fun _ hk=>hk.2) (.string t399)) (fun _ hk=>hk.2) (.string t400)) (fun _ hk=>hk.2) (.slice Ao46 t401.length co46)) (fun _ h_=>h_.1))) hb);have n2_:=Aside0.mk (Kd.V_lower (Kd.V_mono (ok':=fun k_=>some k_≠(.slice (some ad396) y393.length co40:Value).ownBlock∧k_≠gb405) ho0 (fun k_ hk_=>⟨(Kd.fresh' (Kd.R_lt (by(with_reducible repeat (first|apply Kd.R_alloc|apply Kd.R_drewN|apply Kd.R_drew));exact(Kd.R_mono (Kd.R_far (p:=⟨gb405,2,none⟩) (Kd.R_far (p:=⟨gb405,1,none⟩) (Kd.R_far (p:=⟨gb405,0,none⟩) (Kd.R_types HO395.out BK405.out (by decide)) (fun _ hk=>hk.2) (.string t399)) (fun _ hk=>hk.2) (.string t400)) (fun _ hk=>hk.2) (.slice Ao46 t401.length co46)) (fun _ h_=>h_.1)))) k_ hk_),(Kd.freshB (g:=gb405) (o:=.cells #[.string t399,.string t400,.slice Ao46 t401.length co46] 24 (0,0)) (by(with_reducible repeat (first|refine blk_drewN ?_ _|refine blk_drew ?_|refine blk_alloc ?_ _));refine blk_put (cs:=#[.string t399,.string t400,.slice none 0 0]) ?_ 2 _ rfl;(with_reducible repeat (first|refine blk_drewN ?_ _|refine blk_drew ?_|refine blk_alloc ?_ _));refine blk_put (cs:=#[.string t399,.string (⟨#[]⟩ : ByteArray),.slice none 0 0]) ?_ 1 _ rfl;(with_reducible repeat (first|refine blk_drewN ?_ _|refine blk_drew ?_|refine blk_alloc ?_ _));refine blk_put (cs:=#[.string (⟨#[]⟩ : ByteArray),.string (⟨#[]⟩ : ByteArray),.slice none 0 0]) ?_ 0 _ rfl;(with_reducible repeat (first|refine blk_drewN ?_ _|refine blk_drew ?_|refine blk_alloc ?_ _));exact BK405.out) k_ hk_)⟩)) (below_size (by repeat (first|(with_reducible first|exact HB.out|apply below_alloc|apply pw_below_drewN|apply below_drew1|refine below_set ?_ GE405.out)|exact HB.out))));have n3_:=Aside0.mk (blk_below (g:=gb405) (o:=.cells #[.string t399,.string t400,.slice Ao46 t401.length co46] 24 (0,0)) (by(with_reducible repeat (first|refine blk_drewN ?_ _|refine blk_drew ?_|refine blk_alloc ?_ _));refine blk_put (cs:=#[.string t399,.string t400,.slice none 0 0]) ?_ 2 _ rfl;(with_reducible repeat (first|refine blk_drewN ?_ _|refine blk_drew ?_|refine blk_alloc ?_ _));refine blk_put (cs:=#[.string t399,.string (⟨#[]⟩ : ByteArray),.slice none 0 0]) ?_ 1 _ rfl;(with_reducible repeat (first|refine blk_drewN ?_ _|refine blk_drew ?_|refine blk_alloc ?_ _));refine blk_put (cs:=#[.string (⟨#[]⟩ : ByteArray),.string (⟨#[]⟩ : ByteArray),.slice none 0 0]) ?_ 0 _ rfl;(with_reducible repeat (first|refine blk_drewN ?_ _|refine blk_drew ?_|refine blk_alloc ?_ _));exact BK405.out) hb);have n4_:=Aside0.mk (below_step (by repeat (first|(with_reducible first|exact HB.out|apply below_alloc|apply pw_below_drewN|apply below_drew1|refine below_set ?_ GE405.out)|exact HB.out)) hb);clear HO395;clear HO403;clear BK405;clear HB;have HO395:=n0_;have HO403:=n1_;have HO410:=n2_;have BK405:=n3_;have HB:=n4_;clear n0_ n1_ n2_ n3_ n4_;(try clear hb);(try clear hb2);(try clear hk);(try clear hi);(try clear ho0))|((with_reducible refine gate_dst (N:=12) rfl ?_);(try (refine gate_guard (by rfl) ?_;dsimp only));refine box_event ?hg (N:=12) ?hd (cs:=#[.string (⟨#[]⟩ : ByteArray),.string (⟨#[]⟩ : ByteArray),.slice none 0 0]) (t:=24) ?hr ?_;(case hd=>rfl);(case hg=>rfl);(case hr=>first|(go_simp;done)|(go_simp;rfl));intro gb412 hg w48 hbox hb;have n0_:=Aside0.mk (Kd.R_below (by(with_reducible repeat (first|apply Kd.R_alloc|apply Kd.R_drewN|apply Kd.R_drew));exact HO395.out) hb);have n1_:=Aside0.mk (Kd.V_below (Kd.V_elderB (by(with_reducible repeat (first|apply Kd.V_alloc|apply Kd.V_drewN|apply Kd.V_drew));exact HO403.out) gb412 (Nat.le_of_eq hg.symm)) hb);have n2_:=Aside0.mk (Kd.V_below (Kd.V_elderB (by(with_reducible repeat (first|apply Kd.V_alloc|apply Kd.V_drewN|apply Kd.V_drew));exact HO410.out) gb412 (Nat.le_of_eq hg.symm)) hb);have n3_:=Aside0.mk (blk_below (g:=gb405) (o:=.cells #[.string t399,.string t400,.slice Ao46 t401.length co46] 24 (0,0)) (by(with_reducible repeat (first|refine blk_drewN ?_ _|refine blk_drew ?_|refine blk_alloc ?_ _));exact BK405.out) hb);have n4_:=Aside0.mk (below_step (by repeat (first|(with_reducible first|exact HB.out|apply below_alloc|apply pw_below_drewN|apply below_drew1|refine below_set ?_ GE405.out)|exact HB.out)) hb);have n5_:=Aside0.mk (hbox);have n6_:=Aside0.mk ((by rw [hg];exact(below_size (by repeat (first|(with_reducible first|exact HB.out|apply below_alloc|apply pw_below_drewN|apply below_drew1|refine below_set ?_ GE405.out)|exact HB.out))):w.heap.size≤gb412));have n7_:=Aside0.mk ((by rw [hg];exact(below_size (by repeat (first|(with_reducible first|exact HB.out|apply below_alloc|apply pw_below_drewN|apply below_drew1|refine below_set ?_ GE405.out)|exact HB.out))):w.heap.size≤gb412));have n8_:=Aside0.mk ((by rw [hg];exact Nat.ne_of_lt (blk_lt (g:=gb405) (o:=.cells #[.string t399,.string t400,.slice Ao46 t401.length co46] 24 (0,0)) (by(with_reducible repeat (first|refine blk_drewN ?_ _|refine blk_drew ?_|refine blk_alloc ?_ _));exact BK405.out)):gb405≠gb412));have n9_:=Aside0.mk ((by rw [hg];exact Nat.ne_of_gt (blk_lt (g:=gb405) (o:=.cells #[.string t399,.string t400,.slice Ao46 t401.length co46] 24 (0,0)) (by(with_reducible repeat (first|refine blk_drewN ?_ _|refine blk_drew ?_|refine blk_alloc ?_ _));exact BK405.out)):gb412≠gb405));clear HO395;clear HO403;clear HO410;clear BK405;clear HB;have HO395:=n0_;have HO403:=n1_;have HO410:=n2_;have BK405:=n3_;have HB:=n4_;have BK412:=n5_;have GW412:=n6_;have GE412:=n7_;have NB405_412:=n8_;have NB412_405:=n9_;clear n0_ n1_ n2_ n3_ n4_ n5_ n6_ n7_ n8_ n9_;clear hb hbox hg;have hnb49:=NB412_405.out;have hnc49:=NB405_412.out;have hcz50_0:w48.cell? ⟨gb412,0,none⟩=some (.string (⟨#[]⟩ : ByteArray)):=(blk_cell BK412.out 0).trans rfl;have hcz50_1:w48.cell? ⟨gb412,1,none⟩=some (.string (⟨#[]⟩ : ByteArray)):=(blk_cell BK412.out 1).trans rfl;have hcz50_2:w48.cell? ⟨gb412,2,none⟩=some (.slice none 0 0):=(blk_cell BK412.out 2).trans rfl;have hfz50_0:=blk_frozen BK412.out 0;have hfz50_1:=blk_frozen BK412.out 1;have hfz50_2:=blk_frozen BK412.out 2;obtain⟨Ao51,co51,eo51⟩:=Kd.V_slice HO410.out;subst eo51))
                            (try simp only [Act.put,List.setIfInBounds_toArray,List.set_cons_zero,List.set_cons_succ])
                            go_cut [81] (fun v81 wc=>∃ (kq:Nat) (x81_36:Bool),v81 = .bool x81_36∧Aside0 (stowagelaw13_XmlWhite.j0 kq t404 t411 x81_36 t399 t400 t401 t406 t407 t408=some r)∧Aside0 (kq≤k)∧Aside0 (Kd.V k24 24 wc w.heap.size (fun k_=>k_≠gb405∧k_≠gb412) (.slice Ao46 t401.length co46) t401)∧Aside0 (Kd.V k24 24 wc w.heap.size (fun k_=>k_≠gb405∧k_≠gb412) (.slice Ao51 t408.length co51) t408)∧Aside0 (wc.heap[gb405]? = some (.cells #[.string t399,.string t400,(.slice Ao46 t401.length co46)] 24 (0,0)))∧Aside0 (wc.heap[gb412]? = some (.cells #[.string t406,.string t407,(.slice Ao51 t408.length co51)] 24 (0,0)))∧Aside0 (Below w.heap.size w wc))
                            case first=>
                             have H:=HC37.out
                             clear HC37
                             replace H:=itO H
                             rcases H with⟨c52,H⟩|⟨c52,H⟩
                             ·skip
                              have c52b0:(t404 == t411)=true:=beq_iff_eq.mpr c52
                              have c52b1:(t404 != t411)=false:=bne_eq_false_iff_eq.mpr c52
                              clear c52
                              (first|rw [c52b0]|(simp only [i64_w,i32_w];rw [c52b0])|skip)
                              have H':=Aside0.mk H
                              clear H
                              go_wp2
                              go_meet
                              case rel=>exact⟨_,((t404 != 0)),(by first|rfl|(simp;done)|(simp [*];done)),H',⟨by first|omega|exact Nat.le_refl _⟩,⟨by(with_reducible repeat (first|apply Kd.V_alloc|apply Kd.V_drewN|apply Kd.V_drew));exact Kd.V_mono (Kd.V_far (p:=⟨gb412,2,none⟩) (Kd.V_far (p:=⟨gb412,1,none⟩) (Kd.V_far (p:=⟨gb412,0,none⟩) (Kd.V_mono HO403.out (fun k_ hk=>(⟨hk,hk.2⟩ : _∧k_≠gb412))) (fun _ hk=>hk.2) (.string t406)) (fun _ hk=>hk.2) (.string t407)) (fun _ hk=>hk.2) (.slice Ao51 t408.length co51)) (fun _ hk=>⟨hk.1.1.2,hk.1.2⟩)⟩,⟨by(with_reducible repeat (first|apply Kd.V_alloc|apply Kd.V_drewN|apply Kd.V_drew));exact Kd.V_mono (Kd.V_far (p:=⟨gb412,2,none⟩) (Kd.V_far (p:=⟨gb412,1,none⟩) (Kd.V_far (p:=⟨gb412,0,none⟩) (Kd.V_mono HO410.out (fun k_ hk=>(⟨hk,hk.2⟩ : _∧k_≠gb412))) (fun _ hk=>hk.2) (.string t406)) (fun _ hk=>hk.2) (.string t407)) (fun _ hk=>hk.2) (.slice Ao51 t408.length co51)) (fun _ hk=>⟨hk.1.1.2,hk.1.2⟩)⟩,⟨by(with_reducible repeat (first|refine blk_drewN ?_ _|refine blk_drew ?_|refine blk_alloc ?_ _));refine blk_far ?_ NB405_412.out _;(with_reducible repeat (first|refine blk_drewN ?_ _|refine blk_drew ?_|refine blk_alloc ?_ _));refine blk_far ?_ NB405_412.out _;(with_reducible repeat (first|refine blk_drewN ?_ _|refine blk_drew ?_|refine blk_alloc ?_ _));refine blk_far ?_ NB405_412.out _;(with_reducible repeat (first|refine blk_drewN ?_ _|refine blk_drew ?_|refine blk_alloc ?_ _));exact BK405.out⟩,⟨by(with_reducible repeat (first|refine blk_drewN ?_ _|refine blk_drew ?_|refine blk_alloc ?_ _));refine blk_put (cs:=#[.string t406,.string t407,.slice none 0 0]) ?_ 2 _ rfl;(with_reducible repeat (first|refine blk_drewN ?_ _|refine blk_drew ?_|refine blk_alloc ?_ _));refine blk_put (cs:=#[.string t406,.string (⟨#[]⟩ : ByteArray),.slice none 0 0]) ?_ 1 _ rfl;(with_reducible repeat (first|refine blk_drewN ?_ _|refine blk_drew ?_|refine blk_alloc ?_ _));refine blk_put (cs:=#[.string (⟨#[]⟩ : ByteArray),.string (⟨#[]⟩ : ByteArray),.slice none 0 0]) ?_ 0 _ rfl;(with_reducible repeat (first|refine blk_drewN ?_ _|refine blk_drew ?_|refine blk_alloc ?_ _));exact BK412.out⟩,⟨by repeat (first|(with_reducible first|exact HB.out|apply below_alloc|apply pw_below_drewN|apply below_drew1|refine below_set ?_ GE405.out|refine below_set ?_ GE412.out)|exact HB.out)⟩⟩
                             ·skip
                              have c52b0:(t404 == t411)=false:=beq_eq_false_iff_ne.mpr c52
                              have c52b1:(t404 != t411)=true:=bne_iff_ne.mpr c52
                              (first|rw [c52b0]|(simp only [i64_w,i32_w];rw [c52b0])|skip)
                              have H':=Aside0.mk H
                              clear H
                              go_wp2
                              go_meet
                              case rel=>exact⟨_,(true),(by first|rfl|(simp;done)|(simp [*];done)),H',⟨by first|omega|exact Nat.le_refl _⟩,⟨by(with_reducible repeat (first|apply Kd.V_alloc|apply Kd.V_drewN|apply Kd.V_drew));exact Kd.V_mono (Kd.V_far (p:=⟨gb412,2,none⟩) (Kd.V_far (p:=⟨gb412,1,none⟩) (Kd.V_far (p:=⟨gb412,0,none⟩) (Kd.V_mono HO403.out (fun k_ hk=>(⟨hk,hk.2⟩ : _∧k_≠gb412))) (fun _ hk=>hk.2) (.string t406)) (fun _ hk=>hk.2) (.string t407)) (fun _ hk=>hk.2) (.slice Ao51 t408.length co51)) (fun _ hk=>⟨hk.1.1.2,hk.1.2⟩)⟩,⟨by(with_reducible repeat (first|apply Kd.V_alloc|apply Kd.V_drewN|apply Kd.V_drew));exact Kd.V_mono (Kd.V_far (p:=⟨gb412,2,none⟩) (Kd.V_far (p:=⟨gb412,1,none⟩) (Kd.V_far (p:=⟨gb412,0,none⟩) (Kd.V_mono HO410.out (fun k_ hk=>(⟨hk,hk.2⟩ : _∧k_≠gb412))) (fun _ hk=>hk.2) (.string t406)) (fun _ hk=>hk.2) (.string t407)) (fun _ hk=>hk.2) (.slice Ao51 t408.length co51)) (fun _ hk=>⟨hk.1.1.2,hk.1.2⟩)⟩,⟨by(with_reducible repeat (first|refine blk_drewN ?_ _|refine blk_drew ?_|refine blk_alloc ?_ _));refine blk_far ?_ NB405_412.out _;(with_reducible repeat (first|refine blk_drewN ?_ _|refine blk_drew ?_|refine blk_alloc ?_ _));refine blk_far ?_ NB405_412.out _;(with_reducible repeat (first|refine blk_drewN ?_ _|refine blk_drew ?_|refine blk_alloc ?_ _));refine blk_far ?_ NB405_412.out _;(with_reducible repeat (first|refine blk_drewN ?_ _|refine blk_drew ?_|refine blk_alloc ?_ _));exact BK405.out⟩,⟨by(with_reducible repeat (first|refine blk_drewN ?_ _|refine blk_drew ?_|refine blk_alloc ?_ _));refine blk_put (cs:=#[.string t406,.string t407,.slice none 0 0]) ?_ 2 _ rfl;(with_reducible repeat (first|refine blk_drewN ?_ _|refine blk_drew ?_|refine blk_alloc ?_ _));refine blk_put (cs:=#[.string t406,.string (⟨#[]⟩ : ByteArray),.slice none 0 0]) ?_ 1 _ rfl;(with_reducible repeat (first|refine blk_drewN ?_ _|refine blk_drew ?_|refine blk_alloc ?_ _));refine blk_put (cs:=#[.string (⟨#[]⟩ : ByteArray),.string (⟨#[]⟩ : ByteArray),.slice none 0 0]) ?_ 0 _ rfl;(with_reducible repeat (first|refine blk_drewN ?_ _|refine blk_drew ?_|refine blk_alloc ?_ _));exact BK412.out⟩,⟨by repeat (first|(with_reducible first|exact HB.out|apply below_alloc|apply pw_below_drewN|apply below_drew1|refine below_set ?_ GE405.out|refine below_set ?_ GE412.out)|exact HB.out)⟩⟩
                            case rest=>
                             clear HC37
                             try clear c1
                             try clear c2
                             try clear p2
                             try clear c3
                             try clear p3
                             try clear q3
                             try clear hx3
                             try clear c4
                             try clear c4b0
                             try clear c5
                             try clear p6
                             try clear c7
                             try clear c7b0
                             try clear c8
                             try clear c8b0
                             try clear c10
                             try clear c11
                             try clear c11b0
                             try clear c11b1
                             try clear c11b2
                             try clear c12
                             try clear c12b0
                             try clear c12b1
                             try clear c12b2
                             try clear c13
                             try clear c13b0
                             try clear c13b1
                             try clear c13b2
                             try clear c14
                             try clear c14b0
                             try clear c14b1
                             try clear c14b2
                             try clear c16
                             try clear c16b0
                             try clear c16b1
                             try clear c16b2
                             try clear c17
                             try clear c17b0
                             try clear c17b1
                             try clear c17b2
                             try clear c18
                             try clear c18b0
                             try clear c18b1
                             try clear c18b2
                             try clear c19
                             try clear c19b0
                             try clear c19b1
                             try clear c19b2
                             try clear c20
                             try clear c20b0
                             try clear c20b1
                             try clear c20b2
                             try clear c21
                             try clear c21b0
                             try clear c21b1
                             try clear c21b2
                             try clear c22
                             try clear c22b0
                             try clear c22b1
                             try clear c22b2
                             try clear c23
                             try clear c23b0
                             try clear c23b1
                             try clear c23b2
                             try clear c24
                             try clear c24b0
                             try clear c24b1
                             try clear c24b2
                             try clear c25
                             try clear c25b0
                             try clear c25b1
                             try clear c25b2
                             try clear c26
                             try clear c26b0
                             try clear c26b1
                             try clear c26b2
                             try clear c27
                             try clear c27b0
                             try clear c27b1
                             try clear c27b2
                             try clear c28
                             try clear c28b0
                             try clear c28b1
                             try clear c28b2
                             try clear c29
                             try clear c29b0
                             try clear c29b1
                             try clear c29b2
                             try clear c30
                             try clear c30b0
                             try clear c30b1
                             try clear c30b2
                             try clear c31
                             try clear c31b0
                             try clear c31b1
                             try clear c31b2
                             try clear c32
                             try clear c32b0
                             try clear c32b1
                             try clear c32b2
                             try clear c33
                             try clear c33b0
                             try clear c33b1
                             try clear c33b2
                             try clear c34
                             try clear c34b0
                             try clear c34b1
                             try clear c34b2
                             try clear c35
                             try clear c35b0
                             try clear c35b1
                             try clear c35b2
                             try clear p39
                             try clear q39
                             try clear hx39
                             try clear c49
                             try clear c52
                             try clear c52b0
                             try clear c52b1
                             try clear hcz45_0
                             try clear hcz45_1
                             try clear hcz45_2
                             try clear hcz50_0
                             try clear hcz50_1
                             try clear hcz50_2
                             try clear hfz45_0
                             try clear hfz45_1
                             try clear hfz45_2
                             try clear hfz50_0
                             try clear hfz50_1
                             try clear hfz50_2
                             try clear hx396_0
                             try clear p396
                             try clear q396
                             obtain⟨kq,x81_36,rfl,HA,HJ36,HO_406002,HO_413002,BK405,BK412,HB⟩:=hcut
                             cases kq with
                             | zero=>exact absurd HA.out (by simp [stowagelaw13_XmlWhite.j0])
                             | succ kj36=>
                              have H:=HA.out
                              clear HA
                              simp only [stowagelaw13_XmlWhite.j0] at H
                              by_cases c53:x81_36=true
                              ·subst c53
                               replace H:=itT H
                               replace H:=itO H
                               rcases H with⟨c54,H⟩|⟨c54,H⟩
                               ·skip
                                have c54b0:(t404 == t411)=true:=beq_iff_eq.mpr c54
                                have c54b1:(t404 != t411)=false:=bne_eq_false_iff_eq.mpr c54
                                clear c54
                                replace H:=bndO H
                                obtain⟨t413,A550,H⟩:=H
                                have A55:=Aside0.mk A550
                                clear A550
                                clear hr
                                obtain rfl:=Option.some.inj H
                                go_wp2_with (first|(go_at_call 14;(with_reducible refine(stowagelaw13_awake.calls kj36  t413 _ (by first|exact hG|exact gok_below hG (by repeat (first|(with_reducible first|exact HB.out|apply below_alloc|apply pw_below_drewN|apply below_drew1|refine below_set ?_ GE405.out|refine below_set ?_ GE412.out)|exact HB.out))|exact gok_heap hG rfl|exact gok_drewN hG _|exact gok_below hG (by repeat (first|exact HB.out|exact HBW.out|exact Below.refl _ _|apply below_alloc|apply pw_below_drewN|apply below_drew1))) A55.out).mono ?_);rintro e w56 ⟨rfl,hb⟩;have n0_:=Aside0.mk (Kd.V_below (by(with_reducible repeat (first|apply Kd.V_alloc|apply Kd.V_drewN|apply Kd.V_drew));exact HO_406002.out) hb);have n1_:=Aside0.mk (Kd.V_below (by(with_reducible repeat (first|apply Kd.V_alloc|apply Kd.V_drewN|apply Kd.V_drew));exact HO_413002.out) hb);have n2_:=Aside0.mk (blk_below (g:=gb405) (o:=.cells #[.string t399,.string t400,.slice Ao46 t401.length co46] 24 (0,0)) (by(with_reducible repeat (first|refine blk_drewN ?_ _|refine blk_drew ?_|refine blk_alloc ?_ _));exact BK405.out) hb);have n3_:=Aside0.mk (blk_below (g:=gb412) (o:=.cells #[.string t406,.string t407,.slice Ao51 t408.length co51] 24 (0,0)) (by(with_reducible repeat (first|refine blk_drewN ?_ _|refine blk_drew ?_|refine blk_alloc ?_ _));exact BK412.out) hb);have n4_:=Aside0.mk (below_step (by repeat (first|(with_reducible first|exact HB.out|apply below_alloc|apply pw_below_drewN|apply below_drew1|refine below_set ?_ GE405.out|refine below_set ?_ GE412.out)|exact HB.out)) hb);clear HO_406002;clear HO_413002;clear BK405;clear BK412;clear HB;have HO_406002:=n0_;have HO_413002:=n1_;have BK405:=n2_;have BK412:=n3_;have HB:=n4_;clear n0_ n1_ n2_ n3_ n4_;(try clear hb);(try clear hb2);(try clear hk);(try clear hi)))
                                go_ret
                                exact⟨by first|rfl|(simp [errW_none,errW_some] <;> rfl)|(simp [*,errW_none,errW_some] <;> rfl),by repeat (first|(with_reducible first|exact HB.out|apply below_alloc|apply pw_below_drewN|apply below_drew1|refine below_set ?_ GE405.out|refine below_set ?_ GE412.out)|exact HB.out)⟩
                               ·skip
                                have c54b0:(t404 == t411)=false:=beq_eq_false_iff_ne.mpr c54
                                have c54b1:(t404 != t411)=true:=bne_iff_ne.mpr c54
                                rw [hr] at H
                                exact absurd H (by simp)
                              ·replace c53:=Bool.eq_false_iff.mpr c53
                               subst c53
                               replace H:=itF H
                               replace H:=itO H
                               rcases H with⟨c57,H⟩|⟨c57,H⟩
                               ·skip
                                have c57b0:((t401.length:Int) == 3)=true:=beq_iff_eq.mpr c57
                                have c57b1:((t401.length:Int) != 3)=false:=bne_eq_false_iff_eq.mpr c57
                                clear c57
                                replace H:=itO H
                                rcases H with⟨c58,H⟩|⟨c58,H⟩
                                ·skip
                                 have c58b0:((t408.length:Int) == 3)=true:=beq_iff_eq.mpr c58
                                 have c58b1:((t408.length:Int) != 3)=false:=bne_eq_false_iff_eq.mpr c58
                                 clear c58
                                 replace H:=itO H
                                 rcases H with⟨c59,H⟩|⟨c59,H⟩
                                 ·skip
                                  have c59b0:decide (0<(t401.length:Int))=true:=decide_eq_true c59
                                  have c59b1:decide (0<t401.length)=true:=decide_eq_true (by omega)
                                  clear c59
                                  replace H:=itO H
                                  rcases H with⟨c60,H⟩|⟨c60,H⟩
                                  ·skip
                                   have c60b0:decide (0<(t408.length:Int))=true:=decide_eq_true c60
                                   have c60b1:decide (0<t408.length)=true:=decide_eq_true (by omega)
                                   clear c60
                                   replace H:=itO H
                                   rcases H with⟨c61,H⟩|⟨c61,H⟩
                                   ·skip
                                    have c61b0:(((rd_T24 t401 0).f1).toList == ((rd_T24 t408 0).f1).toList)=true:=beq_iff_eq.mpr c61
                                    have c61b1:(((rd_T24 t401 0).f1).toList != ((rd_T24 t408 0).f1).toList)=false:=bne_eq_false_iff_eq.mpr c61
                                    clear c61
                                    replace H:=itO H
                                    rcases H with⟨c62,H⟩|⟨c62,H⟩
                                    ·skip
                                     have c62b0:decide (1<(t401.length:Int))=true:=decide_eq_true c62
                                     have c62b1:decide (1<t401.length)=true:=decide_eq_true (by omega)
                                     clear c62
                                     replace H:=itO H
                                     rcases H with⟨c63,H⟩|⟨c63,H⟩
                                     ·skip
                                      have c63b0:decide (1<(t408.length:Int))=true:=decide_eq_true c63
                                      have c63b1:decide (1<t408.length)=true:=decide_eq_true (by omega)
                                      clear c63
                                      replace H:=itO H
                                      rcases H with⟨c64,H⟩|⟨c64,H⟩
                                      ·skip
                                       have c64b0:(((rd_T24 t401 1).f1).toList == ((rd_T24 t408 1).f1).toList)=true:=beq_iff_eq.mpr c64
                                       have c64b1:(((rd_T24 t401 1).f1).toList != ((rd_T24 t408 1).f1).toList)=false:=bne_eq_false_iff_eq.mpr c64
                                       clear c64
                                       replace H:=itO H
                                       rcases H with⟨c65,H⟩|⟨c65,H⟩
                                       ·skip
                                        have c65b0:decide (2<(t408.length:Int))=true:=decide_eq_true c65
                                        have c65b1:decide (2<t408.length)=true:=decide_eq_true (by omega)
                                        clear c65
                                        replace H:=itO H
                                        rcases H with⟨c66,H⟩|⟨c66,H⟩
                                        ·skip
                                         have c66b0:(((rd_T24 t408 2).f1).toList == ([]:List UInt8))=true:=beq_iff_eq.mpr c66
                                         have c66b1:(((rd_T24 t408 2).f1).toList != ([]:List UInt8))=false:=bne_eq_false_iff_eq.mpr c66
                                         clear c66
                                         replace H:=bndO H
                                         obtain⟨t419,A670,H⟩:=H
                                         have A67:=Aside0.mk A670
                                         clear A670
                                         clear hr
                                         obtain rfl:=Option.some.inj H
                                         try go_wp2
                                         have n0_:=Aside0.mk (Kd.V_drew HO_406002.out)
                                         have n1_:=Aside0.mk (Kd.V_drew HO_413002.out)
                                         have n2_:=Aside0.mk (blk_drew BK405.out)
                                         have n3_:=Aside0.mk (blk_drew BK412.out)
                                         have n4_:=Aside0.mk (below_drew1 HB.out)
                                         clear HO_406002
                                         clear HO_413002
                                         clear BK405
                                         clear BK412
                                         clear HB
                                         have HO_406002:=n0_
                                         have HO_413002:=n1_
                                         have BK405:=n2_
                                         have BK412:=n3_
                                         have HB:=n4_
                                         clear n0_ n1_ n2_ n3_ n4_
                                         have p414:0≤(0:Int):=(by omega)
                                         have q414:0<(t401.length:Int):=of_decide_eq_true (by first|(with_reducible assumption)|assumption)
                                         obtain⟨ad414,A414_2,c414_2,e414,hx414_0,hx414_1,hx414_2,hl414_2,hi414_2⟩:=at_T24 (Kd.V_reads' HO_406002.out).2.2 0 p414 q414
                                         cases e414
                                         obtain⟨ce414,hce414,hMe414,hcc414⟩:=Kd.V_get HO_406002.out z24 0 p414 (by first|exact q414|exact of_decide_eq_true (by first|(with_reducible assumption)|assumption)|(have e_:=(Kd.V_reads' HO_406002.out).1;omega))
                                         obtain⟨ua414_2,uc414_2,rfl,ul414_2,ge414_2⟩:=k24_openF hMe414
                                         have hv414_2:=hcc414 2 _ rfl
                                         rw [add_field _ _ 2 (by omega)] at hv414_2
                                         replace hv414_2:=Option.some.inj (hv414_2.symm.trans hx414_2)
                                         injection hv414_2 with hva_ hvn_ hvc_
                                         rw [hva_] at ge414_2
                                         rw [hvc_] at ul414_2
                                         have HL414_2:=Aside0.mk (show Kd.V k24 24 _ w.heap.size _ _ ((rd_T24 t401 0).f2) from Kd.V_mk ul414_2 ge414_2)
                                         clear hva_ hvn_ hvc_ ge414_2 ul414_2
                                         clear hcc414 hce414
                                         have qi414:(0<t401.length)=True:=eq_true (by omega)
                                         (try rw [show((0:Int)).toNat=0 from rfl] at hx414_0)
                                         (try rw [show 0*3=0 from rfl] at hx414_0)
                                         (try rw [Addr.add_zero'] at hx414_0)
                                         (try rw [show((0:Int)).toNat=0 from rfl] at hx414_1)
                                         (try rw [show 0*3=0 from rfl] at hx414_1)
                                         (try rw [Addr.add_zero'] at hx414_1)
                                         (try rw [show((0:Int)).toNat=0 from rfl] at hx414_2)
                                         (try rw [show 0*3=0 from rfl] at hx414_2)
                                         (try rw [Addr.add_zero'] at hx414_2)
                                         have HR414_2:=Aside0.mk hi414_2
                                         have HC414_2:=Aside0.mk hl414_2
                                         clear hi414_2 hl414_2
                                         replace p414:=eq_true p414
                                         replace q414:=eq_true q414
                                         have p415:0≤(0:Int):=(by omega)
                                         have q415:0<(t408.length:Int):=of_decide_eq_true (by first|(with_reducible assumption)|assumption)
                                         obtain⟨ad415,A415_2,c415_2,e415,hx415_0,hx415_1,hx415_2,hl415_2,hi415_2⟩:=at_T24 (Kd.V_reads' HO_413002.out).2.2 0 p415 q415
                                         cases e415
                                         obtain⟨ce415,hce415,hMe415,hcc415⟩:=Kd.V_get HO_413002.out z24 0 p415 (by first|exact q415|exact of_decide_eq_true (by first|(with_reducible assumption)|assumption)|(have e_:=(Kd.V_reads' HO_413002.out).1;omega))
                                         obtain⟨ua415_2,uc415_2,rfl,ul415_2,ge415_2⟩:=k24_openF hMe415
                                         have hv415_2:=hcc415 2 _ rfl
                                         rw [add_field _ _ 2 (by omega)] at hv415_2
                                         replace hv415_2:=Option.some.inj (hv415_2.symm.trans hx415_2)
                                         injection hv415_2 with hva_ hvn_ hvc_
                                         rw [hva_] at ge415_2
                                         rw [hvc_] at ul415_2
                                         have HL415_2:=Aside0.mk (show Kd.V k24 24 _ w.heap.size _ _ ((rd_T24 t408 0).f2) from Kd.V_mk ul415_2 ge415_2)
                                         clear hva_ hvn_ hvc_ ge415_2 ul415_2
                                         clear hcc415 hce415
                                         have qi415:(0<t408.length)=True:=eq_true (by omega)
                                         (try rw [show((0:Int)).toNat=0 from rfl] at hx415_0)
                                         (try rw [show 0*3=0 from rfl] at hx415_0)
                                         (try rw [Addr.add_zero'] at hx415_0)
                                         (try rw [show((0:Int)).toNat=0 from rfl] at hx415_1)
                                         (try rw [show 0*3=0 from rfl] at hx415_1)
                                         (try rw [Addr.add_zero'] at hx415_1)
                                         (try rw [show((0:Int)).toNat=0 from rfl] at hx415_2)
                                         (try rw [show 0*3=0 from rfl] at hx415_2)
                                         (try rw [Addr.add_zero'] at hx415_2)
                                         have HR415_2:=Aside0.mk hi415_2
                                         have HC415_2:=Aside0.mk hl415_2
                                         clear hi415_2 hl415_2
                                         replace p415:=eq_true p415
                                         replace q415:=eq_true q415
                                         have p416:0≤(1:Int):=(by omega)
                                         have q416:1<(t401.length:Int):=of_decide_eq_true (by first|(with_reducible assumption)|assumption)
                                         obtain⟨ad416,A416_2,c416_2,e416,hx416_0,hx416_1,hx416_2,hl416_2,hi416_2⟩:=at_T24 (Kd.V_reads' HO_406002.out).2.2 1 p416 q416
                                         obtain rfl:ad414=ad416:=(by injection e416)
                                         obtain⟨ce416,hce416,hMe416,hcc416⟩:=Kd.V_get HO_406002.out z24 1 p416 (by first|exact q416|exact of_decide_eq_true (by first|(with_reducible assumption)|assumption)|(have e_:=(Kd.V_reads' HO_406002.out).1;omega))
                                         obtain⟨ua416_2,uc416_2,rfl,ul416_2,ge416_2⟩:=k24_openF hMe416
                                         have hv416_2:=hcc416 2 _ rfl
                                         rw [add_field _ _ 2 (by omega)] at hv416_2
                                         replace hv416_2:=Option.some.inj (hv416_2.symm.trans hx416_2)
                                         injection hv416_2 with hva_ hvn_ hvc_
                                         rw [hva_] at ge416_2
                                         rw [hvc_] at ul416_2
                                         have HL416_2:=Aside0.mk (show Kd.V k24 24 _ w.heap.size _ _ ((rd_T24 t401 1).f2) from Kd.V_mk ul416_2 ge416_2)
                                         clear hva_ hvn_ hvc_ ge416_2 ul416_2
                                         clear hcc416 hce416
                                         (try simp only [show(1:Int).toNat=1 from rfl,Nat.reduceMul,Nat.reduceEqDiff,Go.Addr.add,↓reduceIte] at hx416_0)
                                         (try simp only [show(1:Int).toNat=1 from rfl,Nat.reduceMul,Nat.reduceEqDiff,Go.Addr.add,↓reduceIte] at hx416_1)
                                         (try simp only [show(1:Int).toNat=1 from rfl,Nat.reduceMul,Nat.reduceEqDiff,Go.Addr.add,↓reduceIte] at hx416_2)
                                         have qi416:(1<t401.length)=True:=eq_true (by omega)
                                         (try rw [show((1:Int)).toNat=1 from rfl] at hx416_0)
                                         (try rw [show 1*3=3 from rfl] at hx416_0)
                                         (try rw [show((1:Int)).toNat=1 from rfl] at hx416_1)
                                         (try rw [show 1*3=3 from rfl] at hx416_1)
                                         (try rw [show((1:Int)).toNat=1 from rfl] at hx416_2)
                                         (try rw [show 1*3=3 from rfl] at hx416_2)
                                         have HR416_2:=Aside0.mk hi416_2
                                         have HC416_2:=Aside0.mk hl416_2
                                         clear hi416_2 hl416_2
                                         replace p416:=eq_true p416
                                         replace q416:=eq_true q416
                                         have p417:0≤(1:Int):=(by omega)
                                         have q417:1<(t408.length:Int):=of_decide_eq_true (by first|(with_reducible assumption)|assumption)
                                         obtain⟨ad417,A417_2,c417_2,e417,hx417_0,hx417_1,hx417_2,hl417_2,hi417_2⟩:=at_T24 (Kd.V_reads' HO_413002.out).2.2 1 p417 q417
                                         obtain rfl:ad415=ad417:=(by injection e417)
                                         obtain⟨ce417,hce417,hMe417,hcc417⟩:=Kd.V_get HO_413002.out z24 1 p417 (by first|exact q417|exact of_decide_eq_true (by first|(with_reducible assumption)|assumption)|(have e_:=(Kd.V_reads' HO_413002.out).1;omega))
                                         obtain⟨ua417_2,uc417_2,rfl,ul417_2,ge417_2⟩:=k24_openF hMe417
                                         have hv417_2:=hcc417 2 _ rfl
                                         rw [add_field _ _ 2 (by omega)] at hv417_2
                                         replace hv417_2:=Option.some.inj (hv417_2.symm.trans hx417_2)
                                         injection hv417_2 with hva_ hvn_ hvc_
                                         rw [hva_] at ge417_2
                                         rw [hvc_] at ul417_2
                                         have HL417_2:=Aside0.mk (show Kd.V k24 24 _ w.heap.size _ _ ((rd_T24 t408 1).f2) from Kd.V_mk ul417_2 ge417_2)
                                         clear hva_ hvn_ hvc_ ge417_2 ul417_2
                                         clear hcc417 hce417
                                         (try simp only [show(1:Int).toNat=1 from rfl,Nat.reduceMul,Nat.reduceEqDiff,Go.Addr.add,↓reduceIte] at hx417_0)
                                         (try simp only [show(1:Int).toNat=1 from rfl,Nat.reduceMul,Nat.reduceEqDiff,Go.Addr.add,↓reduceIte] at hx417_1)
                                         (try simp only [show(1:Int).toNat=1 from rfl,Nat.reduceMul,Nat.reduceEqDiff,Go.Addr.add,↓reduceIte] at hx417_2)
                                         have qi417:(1<t408.length)=True:=eq_true (by omega)
                                         (try rw [show((1:Int)).toNat=1 from rfl] at hx417_0)
                                         (try rw [show 1*3=3 from rfl] at hx417_0)
                                         (try rw [show((1:Int)).toNat=1 from rfl] at hx417_1)
                                         (try rw [show 1*3=3 from rfl] at hx417_1)
                                         (try rw [show((1:Int)).toNat=1 from rfl] at hx417_2)
                                         (try rw [show 1*3=3 from rfl] at hx417_2)
                                         have HR417_2:=Aside0.mk hi417_2
                                         have HC417_2:=Aside0.mk hl417_2
                                         clear hi417_2 hl417_2
                                         replace p417:=eq_true p417
                                         replace q417:=eq_true q417
                                         have p418:0≤(2:Int):=(by omega)
                                         have q418:2<(t408.length:Int):=of_decide_eq_true (by first|(with_reducible assumption)|assumption)
                                         obtain⟨ad418,A418_2,c418_2,e418,hx418_0,hx418_1,hx418_2,hl418_2,hi418_2⟩:=at_T24 (Kd.V_reads' HO_413002.out).2.2 2 p418 q418
                                         obtain rfl:ad415=ad418:=(by injection e418)
                                         obtain⟨ce418,hce418,hMe418,hcc418⟩:=Kd.V_get HO_413002.out z24 2 p418 (by first|exact q418|exact of_decide_eq_true (by first|(with_reducible assumption)|assumption)|(have e_:=(Kd.V_reads' HO_413002.out).1;omega))
                                         obtain⟨ua418_2,uc418_2,rfl,ul418_2,ge418_2⟩:=k24_openF hMe418
                                         have hv418_2:=hcc418 2 _ rfl
                                         rw [add_field _ _ 2 (by omega)] at hv418_2
                                         replace hv418_2:=Option.some.inj (hv418_2.symm.trans hx418_2)
                                         injection hv418_2 with hva_ hvn_ hvc_
                                         rw [hva_] at ge418_2
                                         rw [hvc_] at ul418_2
                                         have HL418_2:=Aside0.mk (show Kd.V k24 24 _ w.heap.size _ _ ((rd_T24 t408 2).f2) from Kd.V_mk ul418_2 ge418_2)
                                         clear hva_ hvn_ hvc_ ge418_2 ul418_2
                                         clear hcc418 hce418
                                         (try simp only [show(2:Int).toNat=2 from rfl,Nat.reduceMul,Nat.reduceEqDiff,Go.Addr.add,↓reduceIte] at hx418_0)
                                         (try simp only [show(2:Int).toNat=2 from rfl,Nat.reduceMul,Nat.reduceEqDiff,Go.Addr.add,↓reduceIte] at hx418_1)
                                         (try simp only [show(2:Int).toNat=2 from rfl,Nat.reduceMul,Nat.reduceEqDiff,Go.Addr.add,↓reduceIte] at hx418_2)
                                         have qi418:(2<t408.length)=True:=eq_true (by omega)
                                         (try rw [show((2:Int)).toNat=2 from rfl] at hx418_0)
                                         (try rw [show 2*3=6 from rfl] at hx418_0)
                                         (try rw [show((2:Int)).toNat=2 from rfl] at hx418_1)
                                         (try rw [show 2*3=6 from rfl] at hx418_1)
                                         (try rw [show((2:Int)).toNat=2 from rfl] at hx418_2)
                                         (try rw [show 2*3=6 from rfl] at hx418_2)
                                         have HR418_2:=Aside0.mk hi418_2
                                         have HC418_2:=Aside0.mk hl418_2
                                         clear hi418_2 hl418_2
                                         replace p418:=eq_true p418
                                         replace q418:=eq_true q418
                                         refine start_ (n:=48) (S:=fun w'=>w'.cell? ⟨gb405,0,none⟩=some (.string t399)∧w'.cell? ⟨gb405,1,none⟩=some (.string t400)∧w'.cell? ⟨gb405,2,none⟩=some (.slice (some ad414) t401.length co46)∧w'.cell? ⟨gb412,0,none⟩=some (.string t406)∧w'.cell? ⟨gb412,1,none⟩=some (.string t407)∧w'.cell? ⟨gb412,2,none⟩=some (.slice (some ad415) t408.length co51)∧w'.cell? ad414=some (.string ((rd_T24 t401 0).f0))∧w'.cell? ⟨ad414.block,ad414.off+1,none⟩=some (.string ((rd_T24 t401 0).f1))∧w'.cell? ⟨ad414.block,ad414.off+2,none⟩=some (.slice A414_2 ((rd_T24 t401 0).f2).length c414_2)∧w'.cell? ad415=some (.string ((rd_T24 t408 0).f0))∧w'.cell? ⟨ad415.block,ad415.off+1,none⟩=some (.string ((rd_T24 t408 0).f1))∧w'.cell? ⟨ad415.block,ad415.off+2,none⟩=some (.slice A415_2 ((rd_T24 t408 0).f2).length c415_2)∧w'.cell? ⟨ad414.block,ad414.off+3,none⟩=some (.string ((rd_T24 t401 1).f0))∧w'.cell? ⟨ad414.block,ad414.off+3+1,none⟩=some (.string ((rd_T24 t401 1).f1))∧w'.cell? ⟨ad414.block,ad414.off+3+2,none⟩=some (.slice A416_2 ((rd_T24 t401 1).f2).length c416_2)∧w'.cell? ⟨ad415.block,ad415.off+3,none⟩=some (.string ((rd_T24 t408 1).f0))∧w'.cell? ⟨ad415.block,ad415.off+3+1,none⟩=some (.string ((rd_T24 t408 1).f1))∧w'.cell? ⟨ad415.block,ad415.off+3+2,none⟩=some (.slice A417_2 ((rd_T24 t408 1).f2).length c417_2)∧w'.cell? ⟨ad415.block,ad415.off+6,none⟩=some (.string ((rd_T24 t408 2).f0))∧w'.cell? ⟨ad415.block,ad415.off+6+1,none⟩=some (.string ((rd_T24 t408 2).f1))∧w'.cell? ⟨ad415.block,ad415.off+6+2,none⟩=some (.slice A418_2 ((rd_T24 t408 2).f2).length c418_2)) (ds:=[]) #[F,F,F,F,F,F,F,F,F,F,F,F,F,F,F,F,F,F,F,F,F,F,F,F,F,F,F,F,F,F,F,F,F,F,F,F,F,F,F,F,F,F,F,F,F,F,F,F] (by kernel_rfl) rfl rfl ⟨(blk_cell BK405.out 0).trans rfl,(blk_cell BK405.out 1).trans rfl,(blk_cell BK405.out 2).trans rfl,(blk_cell BK412.out 0).trans rfl,(blk_cell BK412.out 1).trans rfl,(blk_cell BK412.out 2).trans rfl,hx414_0,hx414_1,hx414_2,hx415_0,hx415_1,hx415_2,hx416_0,hx416_1,hx416_2,hx417_0,hx417_1,hx417_2,hx418_0,hx418_1,hx418_2⟩ (fun hHeld=>?_);refine with_tabW stowagelaw13_XmlWhite.tab9 stowagelaw13_XmlWhite.bits9 (fun HT_ HW_=>?_)
                                         generalize wc.drew=w68 at HO_406002 HO_413002 BK405 BK412 HB HL414_2 HL415_2 HL416_2 HL417_2 HL418_2 HR414_2 HR415_2 HR416_2 HR417_2 HR418_2 hx414_0 hx414_1 hx414_2 hx415_0 hx415_1 hx415_2 hx416_0 hx416_1 hx416_2 hx417_0 hx417_1 hx417_2 hx418_0 hx418_1 hx418_2 hHeld ⊢
                                         refine pure_ (i:=0) (N:=some 88) (v:=?_) (a':=?_) #[T,F,F,F,F,F,F,F,F,F,F,F,F,F,F,F,F,F,F,F,F,F,F,F,F,F,F,F,F,F,F,F,F,F,F,F,F,F,F,F,F,F,F,F,F,F,F,F] rfl rfl (any_of HT_.out (by kernel_rfl)) (fun _ _ _ h=>h) (Or.inl ⟨by rfl,?_⟩) ?_ ?_
                                         rotate_left
                                         ·intro w'
                                          go_simp
                                          with_reducible rfl
                                         rotate_left
                                         ·simp only [Act.put,List.setIfInBounds_toArray,List.set_cons_zero,List.set_cons_succ,i64_w,i32_w]
                                          rfl
                                         refine take_ (i:=1) (N:=some 89) (v:=?_) (a':=?_) #[T,T,F,F,F,F,F,F,F,F,F,F,F,F,F,F,F,F,F,F,F,F,F,F,F,F,F,F,F,F,F,F,F,F,F,F,F,F,F,F,F,F,F,F,F,F,F,F] rfl rfl (take_ofW HT_.out HW_.out (by kernel_rfl)) (fun _ _ _ h=>h) (Or.inl ⟨by rfl,?_⟩) hHeld ?_ ?_
                                         rotate_left
                                         ·rintro w' ⟨s0,s1,s2,s3,s4,s5,s6,s7,s8,s9,s10,s11,s12,s13,s14,s15,s16,s17,s18,s19,s20⟩
                                          go_simp
                                          with_reducible rfl
                                         rotate_left
                                         ·simp only [Act.put,List.setIfInBounds_toArray,List.set_cons_zero,List.set_cons_succ,i64_w,i32_w]
                                          rfl
                                         refine pure_ (i:=2) (N:=some 90) (v:=?_) (a':=?_) #[T,T,T,F,F,F,F,F,F,F,F,F,F,F,F,F,F,F,F,F,F,F,F,F,F,F,F,F,F,F,F,F,F,F,F,F,F,F,F,F,F,F,F,F,F,F,F,F] rfl rfl (any_of HT_.out (by kernel_rfl)) (fun _ _ _ h=>h) (Or.inl ⟨by rfl,?_⟩) ?_ ?_
                                         rotate_left
                                         ·intro w'
                                          go_simp
                                          with_reducible rfl
                                         rotate_left
                                         ·simp only [Act.put,List.setIfInBounds_toArray,List.set_cons_zero,List.set_cons_succ,i64_w,i32_w]
                                          rfl
                                         refine pure_ (i:=3) (N:=some 91) (v:=?_) (a':=?_) #[T,T,T,T,F,F,F,F,F,F,F,F,F,F,F,F,F,F,F,F,F,F,F,F,F,F,F,F,F,F,F,F,F,F,F,F,F,F,F,F,F,F,F,F,F,F,F,F] rfl rfl (any_of HT_.out (by kernel_rfl)) (fun _ _ _ h=>h) (Or.inl ⟨by rfl,?_⟩) ?_ ?_
                                         rotate_left
                                         ·intro w'
                                          go_simp
                                          with_reducible rfl
                                         rotate_left
                                         ·simp only [Act.put,List.setIfInBounds_toArray,List.set_cons_zero,List.set_cons_succ,i64_w,i32_w]
                                          rfl
                                         refine pure_ (i:=4) (N:=some 92) (v:=?_) (a':=?_) #[T,T,T,T,T,F,F,F,F,F,F,F,F,F,F,F,F,F,F,F,F,F,F,F,F,F,F,F,F,F,F,F,F,F,F,F,F,F,F,F,F,F,F,F,F,F,F,F] rfl rfl (any_of HT_.out (by kernel_rfl)) (fun _ _ _ h=>h) (Or.inl ⟨by rfl,?_⟩) ?_ ?_
                                         rotate_left
                                         ·intro w'
                                          go_simp
                                          with_reducible rfl
                                         rotate_left
                                         ·simp only [Act.put,List.setIfInBounds_toArray,List.set_cons_zero,List.set_cons_succ,i64_w,i32_w]
                                          rfl
                                         refine pure_ (i:=5) (N:=some 93) (v:=?_) (a':=?_) #[T,T,T,T,T,T,F,F,F,F,F,F,F,F,F,F,F,F,F,F,F,F,F,F,F,F,F,F,F,F,F,F,F,F,F,F,F,F,F,F,F,F,F,F,F,F,F,F] rfl rfl (any_of HT_.out (by kernel_rfl)) (fun _ _ _ h=>h) (Or.inl ⟨by rfl,?_⟩) ?_ ?_
                                         rotate_left
                                         ·intro w'
                                          go_simp
                                          with_reducible rfl
                                         rotate_left
                                         ·simp only [Act.put,List.setIfInBounds_toArray,List.set_cons_zero,List.set_cons_succ,i64_w,i32_w]
                                          rfl
                                         refine take_ (i:=6) (N:=some 94) (v:=?_) (a':=?_) #[T,T,T,T,T,T,T,F,F,F,F,F,F,F,F,F,F,F,F,F,F,F,F,F,F,F,F,F,F,F,F,F,F,F,F,F,F,F,F,F,F,F,F,F,F,F,F,F] rfl rfl (take_ofW HT_.out HW_.out (by kernel_rfl)) (fun _ _ _ h=>h) (Or.inl ⟨by rfl,?_⟩) hHeld ?_ ?_
                                         rotate_left
                                         ·rintro w' ⟨s0,s1,s2,s3,s4,s5,s6,s7,s8,s9,s10,s11,s12,s13,s14,s15,s16,s17,s18,s19,s20⟩
                                          go_simp
                                          with_reducible rfl
                                         rotate_left
                                         ·simp only [Act.put,List.setIfInBounds_toArray,List.set_cons_zero,List.set_cons_succ,i64_w,i32_w]
                                          rfl
                                         refine pure_ (i:=7) (N:=some 95) (v:=?_) (a':=?_) #[T,T,T,T,T,T,T,T,F,F,F,F,F,F,F,F,F,F,F,F,F,F,F,F,F,F,F,F,F,F,F,F,F,F,F,F,F,F,F,F,F,F,F,F,F,F,F,F] rfl rfl (any_of HT_.out (by kernel_rfl)) (fun _ _ _ h=>h) (Or.inl ⟨by rfl,?_⟩) ?_ ?_
                                         rotate_left
                                         ·intro w'
                                          go_simp
                                          with_reducible rfl
                                         rotate_left
                                         ·simp only [Act.put,List.setIfInBounds_toArray,List.set_cons_zero,List.set_cons_succ,i64_w,i32_w]
                                          rfl
                                         refine pure_ (i:=8) (N:=some 96) (v:=?_) (a':=?_) #[T,T,T,T,T,T,T,T,T,F,F,F,F,F,F,F,F,F,F,F,F,F,F,F,F,F,F,F,F,F,F,F,F,F,F,F,F,F,F,F,F,F,F,F,F,F,F,F] rfl rfl (any_of HT_.out (by kernel_rfl)) (fun _ _ _ h=>h) (Or.inl ⟨by rfl,?_⟩) ?_ ?_
                                         rotate_left
                                         ·intro w'
                                          go_simp
                                          with_reducible rfl
                                         rotate_left
                                         ·simp only [Act.put,List.setIfInBounds_toArray,List.set_cons_zero,List.set_cons_succ,i64_w,i32_w]
                                          rfl
                                         refine pure_ (i:=9) (N:=some 97) (v:=?_) (a':=?_) #[T,T,T,T,T,T,T,T,T,T,F,F,F,F,F,F,F,F,F,F,F,F,F,F,F,F,F,F,F,F,F,F,F,F,F,F,F,F,F,F,F,F,F,F,F,F,F,F] rfl rfl (any_of HT_.out (by kernel_rfl)) (fun _ _ _ h=>h) (Or.inl ⟨by rfl,?_⟩) ?_ ?_
                                         rotate_left
                                         ·intro w'
                                          go_simp
                                          with_reducible rfl
                                         rotate_left
                                         ·simp only [Act.put,List.setIfInBounds_toArray,List.set_cons_zero,List.set_cons_succ,i64_w,i32_w]
                                          rfl
                                         refine pure_ (i:=10) (N:=some 98) (v:=?_) (a':=?_) #[T,T,T,T,T,T,T,T,T,T,T,F,F,F,F,F,F,F,F,F,F,F,F,F,F,F,F,F,F,F,F,F,F,F,F,F,F,F,F,F,F,F,F,F,F,F,F,F] rfl rfl (any_of HT_.out (by kernel_rfl)) (fun _ _ _ h=>h) (Or.inl ⟨by rfl,?_⟩) ?_ ?_
                                         rotate_left
                                         ·intro w'
                                          go_simp
                                          with_reducible rfl
                                         rotate_left
                                         ·simp only [Act.put,List.setIfInBounds_toArray,List.set_cons_zero,List.set_cons_succ,i64_w,i32_w]
                                          rfl
                                         refine pure_ (i:=11) (N:=some 99) (v:=?_) (a':=?_) #[T,T,T,T,T,T,T,T,T,T,T,T,F,F,F,F,F,F,F,F,F,F,F,F,F,F,F,F,F,F,F,F,F,F,F,F,F,F,F,F,F,F,F,F,F,F,F,F] rfl rfl (any_of HT_.out (by kernel_rfl)) (fun _ _ _ h=>h) (Or.inl ⟨by rfl,?_⟩) ?_ ?_
                                         rotate_left
                                         ·intro w'
                                          go_simp
                                          with_reducible rfl
                                         rotate_left
                                         ·simp only [Act.put,List.setIfInBounds_toArray,List.set_cons_zero,List.set_cons_succ,i64_w,i32_w]
                                          rfl
                                         refine pure_ (i:=16) (N:=some 104) (v:=?_) (a':=?_) #[T,T,T,T,T,T,T,T,T,T,T,T,F,F,F,F,T,F,F,F,F,F,F,F,F,F,F,F,F,F,F,F,F,F,F,F,F,F,F,F,F,F,F,F,F,F,F,F] rfl rfl (any_of HT_.out (by kernel_rfl)) (fun _ _ _ h=>h) (Or.inl ⟨by rfl,?_⟩) ?_ ?_
                                         rotate_left
                                         ·intro w'
                                          go_simp
                                          with_reducible rfl
                                         rotate_left
                                         ·simp only [Act.put,List.setIfInBounds_toArray,List.set_cons_zero,List.set_cons_succ,i64_w,i32_w]
                                          rfl
                                         refine take_ (i:=12) (N:=some 100) (v:=?_) (a':=?_) #[T,T,T,T,T,T,T,T,T,T,T,T,T,F,F,F,T,F,F,F,F,F,F,F,F,F,F,F,F,F,F,F,F,F,F,F,F,F,F,F,F,F,F,F,F,F,F,F] rfl rfl (take_ofW HT_.out HW_.out (by kernel_rfl)) (fun _ _ _ h=>h) (Or.inl ⟨by rfl,?_⟩) hHeld ?_ ?_
                                         rotate_left
                                         ·rintro w' ⟨s0,s1,s2,s3,s4,s5,s6,s7,s8,s9,s10,s11,s12,s13,s14,s15,s16,s17,s18,s19,s20⟩
                                          go_simp
                                          with_reducible rfl
                                         rotate_left
                                         ·simp only [Act.put,List.setIfInBounds_toArray,List.set_cons_zero,List.set_cons_succ,i64_w,i32_w]
                                          rfl
                                         refine pure_ (i:=13) (N:=some 101) (v:=?_) (a':=?_) #[T,T,T,T,T,T,T,T,T,T,T,T,T,T,F,F,T,F,F,F,F,F,F,F,F,F,F,F,F,F,F,F,F,F,F,F,F,F,F,F,F,F,F,F,F,F,F,F] rfl rfl (any_of HT_.out (by kernel_rfl)) (fun _ _ _ h=>h) (Or.inl ⟨by rfl,?_⟩) ?_ ?_
                                         rotate_left
                                         ·intro w'
                                          go_simp
                                          with_reducible rfl
                                         rotate_left
                                         ·simp only [Act.put,List.setIfInBounds_toArray,List.set_cons_zero,List.set_cons_succ,i64_w,i32_w]
                                          rfl
                                         refine pure_ (i:=14) (N:=some 102) (v:=?_) (a':=?_) #[T,T,T,T,T,T,T,T,T,T,T,T,T,T,T,F,T,F,F,F,F,F,F,F,F,F,F,F,F,F,F,F,F,F,F,F,F,F,F,F,F,F,F,F,F,F,F,F] rfl rfl (any_of HT_.out (by kernel_rfl)) (fun _ _ _ h=>h) (Or.inl ⟨by rfl,?_⟩) ?_ ?_
                                         rotate_left
                                         ·intro w'
                                          go_simp
                                          with_reducible rfl
                                         rotate_left
                                         ·simp only [Act.put,List.setIfInBounds_toArray,List.set_cons_zero,List.set_cons_succ,i64_w,i32_w]
                                          rfl
                                         refine take_ (i:=15) (N:=some 103) (v:=?_) (a':=?_) #[T,T,T,T,T,T,T,T,T,T,T,T,T,T,T,T,T,F,F,F,F,F,F,F,F,F,F,F,F,F,F,F,F,F,F,F,F,F,F,F,F,F,F,F,F,F,F,F] rfl rfl (take_ofW HT_.out HW_.out (by kernel_rfl)) (fun _ _ _ h=>h) (Or.inl ⟨by rfl,?_⟩) hHeld ?_ ?_
                                         rotate_left
                                         ·rintro w' ⟨s0,s1,s2,s3,s4,s5,s6,s7,s8,s9,s10,s11,s12,s13,s14,s15,s16,s17,s18,s19,s20⟩
                                          go_simp
                                          with_reducible rfl
                                         rotate_left
                                         ·simp only [Act.put,List.setIfInBounds_toArray,List.set_cons_zero,List.set_cons_succ,i64_w,i32_w]
                                          rfl
                                         refine take_ (i:=17) (N:=some 105) (v:=?_) (a':=?_) #[T,T,T,T,T,T,T,T,T,T,T,T,T,T,T,T,T,T,F,F,F,F,F,F,F,F,F,F,F,F,F,F,F,F,F,F,F,F,F,F,F,F,F,F,F,F,F,F] rfl rfl (take_ofW HT_.out HW_.out (by kernel_rfl)) (fun _ _ _ h=>h) (Or.inl ⟨by rfl,?_⟩) hHeld ?_ ?_
                                         rotate_left
                                         ·rintro w' ⟨s0,s1,s2,s3,s4,s5,s6,s7,s8,s9,s10,s11,s12,s13,s14,s15,s16,s17,s18,s19,s20⟩
                                          go_simp
                                          with_reducible rfl
                                         rotate_left
                                         ·simp only [Act.put,List.setIfInBounds_toArray,List.set_cons_zero,List.set_cons_succ,i64_w,i32_w]
                                          rfl
                                         refine pure_ (i:=18) (N:=some 106) (v:=?_) (a':=?_) #[T,T,T,T,T,T,T,T,T,T,T,T,T,T,T,T,T,T,T,F,F,F,F,F,F,F,F,F,F,F,F,F,F,F,F,F,F,F,F,F,F,F,F,F,F,F,F,F] rfl rfl (any_of HT_.out (by kernel_rfl)) (fun _ _ _ h=>h) (Or.inl ⟨by rfl,?_⟩) ?_ ?_
                                         rotate_left
                                         ·intro w'
                                          go_simp
                                          with_reducible rfl
                                         rotate_left
                                         ·simp only [Act.put,List.setIfInBounds_toArray,List.set_cons_zero,List.set_cons_succ,i64_w,i32_w]
                                          rfl
                                         refine pure_ (i:=19) (N:=some 107) (v:=?_) (a':=?_) #[T,T,T,T,T,T,T,T,T,T,T,T,T,T,T,T,T,T,T,T,F,F,F,F,F,F,F,F,F,F,F,F,F,F,F,F,F,F,F,F,F,F,F,F,F,F,F,F] rfl rfl (any_of HT_.out (by kernel_rfl)) (fun _ _ _ h=>h) (Or.inl ⟨by rfl,?_⟩) ?_ ?_
                                         rotate_left
                                         ·intro w'
                                          go_simp
                                          with_reducible rfl
                                         rotate_left
                                         ·simp only [Act.put,List.setIfInBounds_toArray,List.set_cons_zero,List.set_cons_succ,i64_w,i32_w]
                                          rfl
                                         refine take_ (i:=20) (N:=some 108) (v:=?_) (a':=?_) #[T,T,T,T,T,T,T,T,T,T,T,T,T,T,T,T,T,T,T,T,T,F,F,F,F,F,F,F,F,F,F,F,F,F,F,F,F,F,F,F,F,F,F,F,F,F,F,F] rfl rfl (take_ofW HT_.out HW_.out (by kernel_rfl)) (fun _ _ _ h=>h) (Or.inl ⟨by rfl,?_⟩) hHeld ?_ ?_
                                         rotate_left
                                         ·rintro w' ⟨s0,s1,s2,s3,s4,s5,s6,s7,s8,s9,s10,s11,s12,s13,s14,s15,s16,s17,s18,s19,s20⟩
                                          go_simp
                                          with_reducible rfl
                                         rotate_left
                                         ·simp only [Act.put,List.setIfInBounds_toArray,List.set_cons_zero,List.set_cons_succ,i64_w,i32_w]
                                          rfl
                                         refine pure_ (i:=21) (N:=some 109) (v:=?_) (a':=?_) #[T,T,T,T,T,T,T,T,T,T,T,T,T,T,T,T,T,T,T,T,T,T,F,F,F,F,F,F,F,F,F,F,F,F,F,F,F,F,F,F,F,F,F,F,F,F,F,F] rfl rfl (any_of HT_.out (by kernel_rfl)) (fun _ _ _ h=>h) (Or.inl ⟨by rfl,?_⟩) ?_ ?_
                                         rotate_left
                                         ·intro w'
                                          go_simp
                                          with_reducible rfl
                                         rotate_left
                                         ·simp only [Act.put,List.setIfInBounds_toArray,List.set_cons_zero,List.set_cons_succ,i64_w,i32_w]
                                          rfl
                                         refine pure_ (i:=22) (N:=some 110) (v:=?_) (a':=?_) #[T,T,T,T,T,T,T,T,T,T,T,T,T,T,T,T,T,T,T,T,T,T,T,F,F,F,F,F,F,F,F,F,F,F,F,F,F,F,F,F,F,F,F,F,F,F,F,F] rfl rfl (any_of HT_.out (by kernel_rfl)) (fun _ _ _ h=>h) (Or.inl ⟨by rfl,?_⟩) ?_ ?_
                                         rotate_left
                                         ·intro w'
                                          go_simp
                                          with_reducible rfl
                                         rotate_left
                                         ·simp only [Act.put,List.setIfInBounds_toArray,List.set_cons_zero,List.set_cons_succ,i64_w,i32_w]
                                          rfl
                                         refine pure_ (i:=23) (N:=some 111) (v:=?_) (a':=?_) #[T,T,T,T,T,T,T,T,T,T,T,T,T,T,T,T,T,T,T,T,T,T,T,T,F,F,F,F,F,F,F,F,F,F,F,F,F,F,F,F,F,F,F,F,F,F,F,F] rfl rfl (any_of HT_.out (by kernel_rfl)) (fun _ _ _ h=>h) (Or.inl ⟨by rfl,?_⟩) ?_ ?_
                                         rotate_left
                                         ·intro w'
                                          go_simp
                                          with_reducible rfl
                                         rotate_left
                                         ·simp only [Act.put,List.setIfInBounds_toArray,List.set_cons_zero,List.set_cons_succ,i64_w,i32_w]
                                          rfl
                                         refine pure_ (i:=24) (N:=some 112) (v:=?_) (a':=?_) #[T,T,T,T,T,T,T,T,T,T,T,T,T,T,T,T,T,T,T,T,T,T,T,T,T,F,F,F,F,F,F,F,F,F,F,F,F,F,F,F,F,F,F,F,F,F,F,F] rfl rfl (any_of HT_.out (by kernel_rfl)) (fun _ _ _ h=>h) (Or.inl ⟨by rfl,?_⟩) ?_ ?_
                                         rotate_left
                                         ·intro w'
                                          go_simp
                                          with_reducible rfl
                                         rotate_left
                                         ·simp only [Act.put,List.setIfInBounds_toArray,List.set_cons_zero,List.set_cons_succ,i64_w,i32_w]
                                          rfl
                                         refine pure_ (i:=29) (N:=some 117) (v:=?_) (a':=?_) #[T,T,T,T,T,T,T,T,T,T,T,T,T,T,T,T,T,T,T,T,T,T,T,T,T,F,F,F,F,T,F,F,F,F,F,F,F,F,F,F,F,F,F,F,F,F,F,F] rfl rfl (any_of HT_.out (by kernel_rfl)) (fun _ _ _ h=>h) (Or.inl ⟨by rfl,?_⟩) ?_ ?_
                                         rotate_left
                                         ·intro w'
                                          go_simp
                                          with_reducible rfl
                                         rotate_left
                                         ·simp only [Act.put,List.setIfInBounds_toArray,List.set_cons_zero,List.set_cons_succ,i64_w,i32_w]
                                          rfl
                                         refine take_ (i:=25) (N:=some 113) (v:=?_) (a':=?_) #[T,T,T,T,T,T,T,T,T,T,T,T,T,T,T,T,T,T,T,T,T,T,T,T,T,T,F,F,F,T,F,F,F,F,F,F,F,F,F,F,F,F,F,F,F,F,F,F] rfl rfl (take_ofW HT_.out HW_.out (by kernel_rfl)) (fun _ _ _ h=>h) (Or.inl ⟨by rfl,?_⟩) hHeld ?_ ?_
                                         rotate_left
                                         ·rintro w' ⟨s0,s1,s2,s3,s4,s5,s6,s7,s8,s9,s10,s11,s12,s13,s14,s15,s16,s17,s18,s19,s20⟩
                                          go_simp
                                          with_reducible rfl
                                         rotate_left
                                         ·simp only [Act.put,List.setIfInBounds_toArray,List.set_cons_zero,List.set_cons_succ,i64_w,i32_w]
                                          rfl
                                         refine pure_ (i:=26) (N:=some 114) (v:=?_) (a':=?_) #[T,T,T,T,T,T,T,T,T,T,T,T,T,T,T,T,T,T,T,T,T,T,T,T,T,T,T,F,F,T,F,F,F,F,F,F,F,F,F,F,F,F,F,F,F,F,F,F] rfl rfl (any_of HT_.out (by kernel_rfl)) (fun _ _ _ h=>h) (Or.inl ⟨by rfl,?_⟩) ?_ ?_
                                         rotate_left
                                         ·intro w'
                                          go_simp
                                          with_reducible rfl
                                         rotate_left
                                         ·simp only [Act.put,List.setIfInBounds_toArray,List.set_cons_zero,List.set_cons_succ,i64_w,i32_w]
                                          rfl
                                         refine pure_ (i:=27) (N:=some 115) (v:=?_) (a':=?_) #[T,T,T,T,T,T,T,T,T,T,T,T,T,T,T,T,T,T,T,T,T,T,T,T,T,T,T,T,F,T,F,F,F,F,F,F,F,F,F,F,F,F,F,F,F,F,F,F] rfl rfl (any_of HT_.out (by kernel_rfl)) (fun _ _ _ h=>h) (Or.inl ⟨by rfl,?_⟩) ?_ ?_
                                         rotate_left
                                         ·intro w'
                                          go_simp
                                          with_reducible rfl
                                         rotate_left
                                         ·simp only [Act.put,List.setIfInBounds_toArray,List.set_cons_zero,List.set_cons_succ,i64_w,i32_w]
                                          rfl
                                         refine take_ (i:=28) (N:=some 116) (v:=?_) (a':=?_) #[T,T,T,T,T,T,T,T,T,T,T,T,T,T,T,T,T,T,T,T,T,T,T,T,T,T,T,T,T,T,F,F,F,F,F,F,F,F,F,F,F,F,F,F,F,F,F,F] rfl rfl (take_ofW HT_.out HW_.out (by kernel_rfl)) (fun _ _ _ h=>h) (Or.inl ⟨by rfl,?_⟩) hHeld ?_ ?_
                                         rotate_left
                                         ·rintro w' ⟨s0,s1,s2,s3,s4,s5,s6,s7,s8,s9,s10,s11,s12,s13,s14,s15,s16,s17,s18,s19,s20⟩
                                          go_simp
                                          with_reducible rfl
                                         rotate_left
                                         ·simp only [Act.put,List.setIfInBounds_toArray,List.set_cons_zero,List.set_cons_succ,i64_w,i32_w]
                                          rfl
                                         refine take_ (i:=30) (N:=some 118) (v:=?_) (a':=?_) #[T,T,T,T,T,T,T,T,T,T,T,T,T,T,T,T,T,T,T,T,T,T,T,T,T,T,T,T,T,T,T,F,F,F,F,F,F,F,F,F,F,F,F,F,F,F,F,F] rfl rfl (take_ofW HT_.out HW_.out (by kernel_rfl)) (fun _ _ _ h=>h) (Or.inl ⟨by rfl,?_⟩) hHeld ?_ ?_
                                         rotate_left
                                         ·rintro w' ⟨s0,s1,s2,s3,s4,s5,s6,s7,s8,s9,s10,s11,s12,s13,s14,s15,s16,s17,s18,s19,s20⟩
                                          go_simp
                                          with_reducible rfl
                                         rotate_left
                                         ·simp only [Act.put,List.setIfInBounds_toArray,List.set_cons_zero,List.set_cons_succ,i64_w,i32_w]
                                          rfl
                                         refine pure_ (i:=31) (N:=some 119) (v:=?_) (a':=?_) #[T,T,T,T,T,T,T,T,T,T,T,T,T,T,T,T,T,T,T,T,T,T,T,T,T,T,T,T,T,T,T,T,F,F,F,F,F,F,F,F,F,F,F,F,F,F,F,F] rfl rfl (any_of HT_.out (by kernel_rfl)) (fun _ _ _ h=>h) (Or.inl ⟨by rfl,?_⟩) ?_ ?_
                                         rotate_left
                                         ·intro w'
                                          go_simp
                                          with_reducible rfl
                                         rotate_left
                                         ·simp only [Act.put,List.setIfInBounds_toArray,List.set_cons_zero,List.set_cons_succ,i64_w,i32_w]
                                          rfl
                                         refine pure_ (i:=32) (N:=some 120) (v:=?_) (a':=?_) #[T,T,T,T,T,T,T,T,T,T,T,T,T,T,T,T,T,T,T,T,T,T,T,T,T,T,T,T,T,T,T,T,T,F,F,F,F,F,F,F,F,F,F,F,F,F,F,F] rfl rfl (any_of HT_.out (by kernel_rfl)) (fun _ _ _ h=>h) (Or.inl ⟨by rfl,?_⟩) ?_ ?_
                                         rotate_left
                                         ·intro w'
                                          go_simp
                                          with_reducible rfl
                                         rotate_left
                                         ·simp only [Act.put,List.setIfInBounds_toArray,List.set_cons_zero,List.set_cons_succ,i64_w,i32_w]
                                          rfl
                                         refine take_ (i:=33) (N:=some 121) (v:=?_) (a':=?_) #[T,T,T,T,T,T,T,T,T,T,T,T,T,T,T,T,T,T,T,T,T,T,T,T,T,T,T,T,T,T,T,T,T,T,F,F,F,F,F,F,F,F,F,F,F,F,F,F] rfl rfl (take_ofW HT_.out HW_.out (by kernel_rfl)) (fun _ _ _ h=>h) (Or.inl ⟨by rfl,?_⟩) hHeld ?_ ?_
                                         rotate_left
                                         ·rintro w' ⟨s0,s1,s2,s3,s4,s5,s6,s7,s8,s9,s10,s11,s12,s13,s14,s15,s16,s17,s18,s19,s20⟩
                                          go_simp
                                          with_reducible rfl
                                         rotate_left
                                         ·simp only [Act.put,List.setIfInBounds_toArray,List.set_cons_zero,List.set_cons_succ,i64_w,i32_w]
                                          rfl
                                         refine pure_ (i:=34) (N:=some 122) (v:=?_) (a':=?_) #[T,T,T,T,T,T,T,T,T,T,T,T,T,T,T,T,T,T,T,T,T,T,T,T,T,T,T,T,T,T,T,T,T,T,T,F,F,F,F,F,F,F,F,F,F,F,F,F] rfl rfl (any_of HT_.out (by kernel_rfl)) (fun _ _ _ h=>h) (Or.inl ⟨by rfl,?_⟩) ?_ ?_
                                         rotate_left
                                         ·intro w'
                                          go_simp
                                          with_reducible rfl
                                         rotate_left
                                         ·simp only [Act.put,List.setIfInBounds_toArray,List.set_cons_zero,List.set_cons_succ,i64_w,i32_w]
                                          rfl
                                         refine pure_ (i:=35) (N:=some 123) (v:=?_) (a':=?_) #[T,T,T,T,T,T,T,T,T,T,T,T,T,T,T,T,T,T,T,T,T,T,T,T,T,T,T,T,T,T,T,T,T,T,T,T,F,F,F,F,F,F,F,F,F,F,F,F] rfl rfl (any_of HT_.out (by kernel_rfl)) (fun _ _ _ h=>h) (Or.inl ⟨by rfl,?_⟩) ?_ ?_
                                         rotate_left
                                         ·intro w'
                                          go_simp
                                          with_reducible rfl
                                         rotate_left
                                         ·simp only [Act.put,List.setIfInBounds_toArray,List.set_cons_zero,List.set_cons_succ,i64_w,i32_w]
                                          rfl
                                         refine pure_ (i:=36) (N:=some 124) (v:=?_) (a':=?_) #[T,T,T,T,T,T,T,T,T,T,T,T,T,T,T,T,T,T,T,T,T,T,T,T,T,T,T,T,T,T,T,T,T,T,T,T,T,F,F,F,F,F,F,F,F,F,F,F] rfl rfl (any_of HT_.out (by kernel_rfl)) (fun _ _ _ h=>h) (Or.inl ⟨by rfl,?_⟩) ?_ ?_
                                         rotate_left
                                         ·intro w'
                                          go_simp
                                          with_reducible rfl
                                         rotate_left
                                         ·simp only [Act.put,List.setIfInBounds_toArray,List.set_cons_zero,List.set_cons_succ,i64_w,i32_w]
                                          rfl
                                         refine pure_ (i:=37) (N:=some 125) (v:=?_) (a':=?_) #[T,T,T,T,T,T,T,T,T,T,T,T,T,T,T,T,T,T,T,T,T,T,T,T,T,T,T,T,T,T,T,T,T,T,T,T,T,T,F,F,F,F,F,F,F,F,F,F] rfl rfl (any_of HT_.out (by kernel_rfl)) (fun _ _ _ h=>h) (Or.inl ⟨by rfl,?_⟩) ?_ ?_
                                         rotate_left
                                         ·intro w'
                                          go_simp
                                          with_reducible rfl
                                         rotate_left
                                         ·simp only [Act.put,List.setIfInBounds_toArray,List.set_cons_zero,List.set_cons_succ,i64_w,i32_w]
                                          rfl
                                         refine take_ (i:=38) (N:=some 126) (v:=?_) (a':=?_) #[T,T,T,T,T,T,T,T,T,T,T,T,T,T,T,T,T,T,T,T,T,T,T,T,T,T,T,T,T,T,T,T,T,T,T,T,T,T,T,F,F,F,F,F,F,F,F,F] rfl rfl (take_ofW HT_.out HW_.out (by kernel_rfl)) (fun _ _ _ h=>h) (Or.inl ⟨by rfl,?_⟩) hHeld ?_ ?_
                                         rotate_left
                                         ·rintro w' ⟨s0,s1,s2,s3,s4,s5,s6,s7,s8,s9,s10,s11,s12,s13,s14,s15,s16,s17,s18,s19,s20⟩
                                          go_simp
                                          with_reducible rfl
                                         rotate_left
                                         ·simp only [Act.put,List.setIfInBounds_toArray,List.set_cons_zero,List.set_cons_succ,i64_w,i32_w]
                                          rfl
                                         refine pure_ (i:=39) (N:=some 127) (v:=?_) (a':=?_) #[T,T,T,T,T,T,T,T,T,T,T,T,T,T,T,T,T,T,T,T,T,T,T,T,T,T,T,T,T,T,T,T,T,T,T,T,T,T,T,T,F,F,F,F,F,F,F,F] rfl rfl (any_of HT_.out (by kernel_rfl)) (fun _ _ _ h=>h) (Or.inl ⟨by rfl,?_⟩) ?_ ?_
                                         rotate_left
                                         ·intro w'
                                          go_simp
                                          with_reducible rfl
                                         rotate_left
                                         ·simp only [Act.put,List.setIfInBounds_toArray,List.set_cons_zero,List.set_cons_succ,i64_w,i32_w]
                                          rfl
                                         refine pure_ (i:=40) (N:=some 128) (v:=?_) (a':=?_) #[T,T,T,T,T,T,T,T,T,T,T,T,T,T,T,T,T,T,T,T,T,T,T,T,T,T,T,T,T,T,T,T,T,T,T,T,T,T,T,T,T,F,F,F,F,F,F,F] rfl rfl (any_of HT_.out (by kernel_rfl)) (fun _ _ _ h=>h) (Or.inl ⟨by rfl,?_⟩) ?_ ?_
                                         rotate_left
                                         ·intro w'
                                          go_simp
                                          with_reducible rfl
                                         rotate_left
                                         ·simp only [Act.put,List.setIfInBounds_toArray,List.set_cons_zero,List.set_cons_succ,i64_w,i32_w]
                                          rfl
                                         refine take_ (i:=41) (N:=some 129) (v:=?_) (a':=?_) #[T,T,T,T,T,T,T,T,T,T,T,T,T,T,T,T,T,T,T,T,T,T,T,T,T,T,T,T,T,T,T,T,T,T,T,T,T,T,T,T,T,T,F,F,F,F,F,F] rfl rfl (take_ofW HT_.out HW_.out (by kernel_rfl)) (fun _ _ _ h=>h) (Or.inl ⟨by rfl,?_⟩) hHeld ?_ ?_
                                         rotate_left
                                         ·rintro w' ⟨s0,s1,s2,s3,s4,s5,s6,s7,s8,s9,s10,s11,s12,s13,s14,s15,s16,s17,s18,s19,s20⟩
                                          go_simp
                                          with_reducible rfl
                                         rotate_left
                                         ·simp only [Act.put,List.setIfInBounds_toArray,List.set_cons_zero,List.set_cons_succ,i64_w,i32_w]
                                          rfl
                                         refine pure_ (i:=42) (N:=some 130) (v:=?_) (a':=?_) #[T,T,T,T,T,T,T,T,T,T,T,T,T,T,T,T,T,T,T,T,T,T,T,T,T,T,T,T,T,T,T,T,T,T,T,T,T,T,T,T,T,T,T,F,F,F,F,F] rfl rfl (any_of HT_.out (by kernel_rfl)) (fun _ _ _ h=>h) (Or.inl ⟨by rfl,?_⟩) ?_ ?_
                                         rotate_left
                                         ·intro w'
                                          go_simp
                                          with_reducible rfl
                                         rotate_left
                                         ·simp only [Act.put,List.setIfInBounds_toArray,List.set_cons_zero,List.set_cons_succ,i64_w,i32_w]
                                          rfl
                                         refine pure_ (i:=43) (N:=some 131) (v:=?_) (a':=?_) #[T,T,T,T,T,T,T,T,T,T,T,T,T,T,T,T,T,T,T,T,T,T,T,T,T,T,T,T,T,T,T,T,T,T,T,T,T,T,T,T,T,T,T,T,F,F,F,F] rfl rfl (any_of HT_.out (by kernel_rfl)) (fun _ _ _ h=>h) (Or.inl ⟨by rfl,?_⟩) ?_ ?_
                                         rotate_left
                                         ·intro w'
                                          go_simp
                                          with_reducible rfl
                                         rotate_left
                                         ·simp only [Act.put,List.setIfInBounds_toArray,List.set_cons_zero,List.set_cons_succ,i64_w,i32_w]
                                          rfl
                                         refine pure_ (i:=44) (N:=some 132) (v:=?_) (a':=?_) #[T,T,T,T,T,T,T,T,T,T,T,T,T,T,T,T,T,T,T,T,T,T,T,T,T,T,T,T,T,T,T,T,T,T,T,T,T,T,T,T,T,T,T,T,T,F,F,F] rfl rfl (any_of HT_.out (by kernel_rfl)) (fun _ _ _ h=>h) (Or.inl ⟨by rfl,?_⟩) ?_ ?_
                                         rotate_left
                                         ·intro w'
                                          go_simp
                                          with_reducible rfl
                                         rotate_left
                                         ·simp only [Act.put,List.setIfInBounds_toArray,List.set_cons_zero,List.set_cons_succ,i64_w,i32_w]
                                          rfl
                                         refine one_ (i:=45) (N:=some 133) #[T,T,T,T,T,T,T,T,T,T,T,T,T,T,T,T,T,T,T,T,T,T,T,T,T,T,T,T,T,T,T,T,T,T,T,T,T,T,T,T,T,T,T,T,T,T,F,F] rfl rfl (one_of HT_.out (by kernel_rfl)) (by decide) (fun K hK=>?_)
                                         refine goes_ Tryd.func14 (by kernel_rfl) rfl #[] (by rfl) rfl rfl (by(try simp only [List.map_toArray,List.map_cons,List.map_nil]);first|done|rfl|(simp only [List.length_drop,List.length_take];rfl)) ?_
                                         with_reducible refine(stowagelaw13_awake.calls kj36  t419 _ (by first|exact hG|exact gok_below hG (by repeat (first|(with_reducible first|exact HB.out|apply below_alloc|apply pw_below_drewN|apply below_drew1|refine below_set ?_ GE405.out|refine below_set ?_ GE412.out)|exact HB.out))|exact gok_heap hG rfl|exact gok_drewN hG _|exact gok_below hG (by repeat (first|exact HB.out|exact HBW.out|exact Below.refl _ _|apply below_alloc|apply pw_below_drewN|apply below_drew1))) A67.out).mono ?_
                                         rintro e w69 ⟨rfl,hb⟩
                                         have HS6_:=(hb.cell (World.block_lt_of_cell? _ _ (hHeld.2.2.2.2.2.2.1))).trans (hHeld.2.2.2.2.2.2.1)
                                         have HS7_:=(hb.cell (World.block_lt_of_cell? _ _ (hHeld.2.2.2.2.2.2.2.1))).trans (hHeld.2.2.2.2.2.2.2.1)
                                         have HS8_:=(hb.cell (World.block_lt_of_cell? _ _ (hHeld.2.2.2.2.2.2.2.2.1))).trans (hHeld.2.2.2.2.2.2.2.2.1)
                                         have HS9_:=(hb.cell (World.block_lt_of_cell? _ _ (hHeld.2.2.2.2.2.2.2.2.2.1))).trans (hHeld.2.2.2.2.2.2.2.2.2.1)
                                         have HS10_:=(hb.cell (World.block_lt_of_cell? _ _ (hHeld.2.2.2.2.2.2.2.2.2.2.1))).trans (hHeld.2.2.2.2.2.2.2.2.2.2.1)
                                         have HS11_:=(hb.cell (World.block_lt_of_cell? _ _ (hHeld.2.2.2.2.2.2.2.2.2.2.2.1))).trans (hHeld.2.2.2.2.2.2.2.2.2.2.2.1)
                                         have HS12_:=(hb.cell (World.block_lt_of_cell? _ _ (hHeld.2.2.2.2.2.2.2.2.2.2.2.2.1))).trans (hHeld.2.2.2.2.2.2.2.2.2.2.2.2.1)
                                         have HS13_:=(hb.cell (World.block_lt_of_cell? _ _ (hHeld.2.2.2.2.2.2.2.2.2.2.2.2.2.1))).trans (hHeld.2.2.2.2.2.2.2.2.2.2.2.2.2.1)
                                         have HS14_:=(hb.cell (World.block_lt_of_cell? _ _ (hHeld.2.2.2.2.2.2.2.2.2.2.2.2.2.2.1))).trans (hHeld.2.2.2.2.2.2.2.2.2.2.2.2.2.2.1)
                                         have HS15_:=(hb.cell (World.block_lt_of_cell? _ _ (hHeld.2.2.2.2.2.2.2.2.2.2.2.2.2.2.2.1))).trans (hHeld.2.2.2.2.2.2.2.2.2.2.2.2.2.2.2.1)
                                         have HS16_:=(hb.cell (World.block_lt_of_cell? _ _ (hHeld.2.2.2.2.2.2.2.2.2.2.2.2.2.2.2.2.1))).trans (hHeld.2.2.2.2.2.2.2.2.2.2.2.2.2.2.2.2.1)
                                         have HS17_:=(hb.cell (World.block_lt_of_cell? _ _ (hHeld.2.2.2.2.2.2.2.2.2.2.2.2.2.2.2.2.2.1))).trans (hHeld.2.2.2.2.2.2.2.2.2.2.2.2.2.2.2.2.2.1)
                                         have HS18_:=(hb.cell (World.block_lt_of_cell? _ _ (hHeld.2.2.2.2.2.2.2.2.2.2.2.2.2.2.2.2.2.2.1))).trans (hHeld.2.2.2.2.2.2.2.2.2.2.2.2.2.2.2.2.2.2.1)
                                         have HS19_:=(hb.cell (World.block_lt_of_cell? _ _ (hHeld.2.2.2.2.2.2.2.2.2.2.2.2.2.2.2.2.2.2.2.1))).trans (hHeld.2.2.2.2.2.2.2.2.2.2.2.2.2.2.2.2.2.2.2.1)
                                         have HS20_:=(hb.cell (World.block_lt_of_cell? _ _ (hHeld.2.2.2.2.2.2.2.2.2.2.2.2.2.2.2.2.2.2.2.2))).trans (hHeld.2.2.2.2.2.2.2.2.2.2.2.2.2.2.2.2.2.2.2.2)
                                         refine⟨_,rfl,?_⟩
                                         have n0_:=Aside0.mk (Kd.V_below (by(with_reducible repeat (first|apply Kd.V_alloc|apply Kd.V_drewN|apply Kd.V_drew));exact HO_406002.out) hb)
                                         have n1_:=Aside0.mk (Kd.V_below (by(with_reducible repeat (first|apply Kd.V_alloc|apply Kd.V_drewN|apply Kd.V_drew));exact HO_413002.out) hb)
                                         have n2_:=Aside0.mk (Kd.V_below (by(with_reducible repeat (first|apply Kd.V_alloc|apply Kd.V_drewN|apply Kd.V_drew));exact HL414_2.out) hb)
                                         have n3_:=Aside0.mk (Kd.V_below (by(with_reducible repeat (first|apply Kd.V_alloc|apply Kd.V_drewN|apply Kd.V_drew));exact HL415_2.out) hb)
                                         have n4_:=Aside0.mk (Kd.V_below (by(with_reducible repeat (first|apply Kd.V_alloc|apply Kd.V_drewN|apply Kd.V_drew));exact HL416_2.out) hb)
                                         have n5_:=Aside0.mk (Kd.V_below (by(with_reducible repeat (first|apply Kd.V_alloc|apply Kd.V_drewN|apply Kd.V_drew));exact HL417_2.out) hb)
                                         have n6_:=Aside0.mk (Kd.V_below (by(with_reducible repeat (first|apply Kd.V_alloc|apply Kd.V_drewN|apply Kd.V_drew));exact HL418_2.out) hb)
                                         have n7_:=Aside0.mk (blk_below (g:=gb405) (o:=.cells #[.string t399,.string t400,.slice (some ad414) t401.length co46] 24 (0,0)) (by(with_reducible repeat (first|refine blk_drewN ?_ _|refine blk_drew ?_|refine blk_alloc ?_ _));exact BK405.out) hb)
                                         have n8_:=Aside0.mk (blk_below (g:=gb412) (o:=.cells #[.string t406,.string t407,.slice (some ad415) t408.length co51] 24 (0,0)) (by(with_reducible repeat (first|refine blk_drewN ?_ _|refine blk_drew ?_|refine blk_alloc ?_ _));exact BK412.out) hb)
                                         have n9_:=Aside0.mk (Kd.C_below (by repeat (first|(with_reducible exact HR414_2.out)|(with_reducible refine Kd.C_alloc ?_ _)|(with_reducible refine Kd.C_drewN ?_ _)|(with_reducible refine Kd.C_drew ?_)|exact HR414_2.out)) hb)
                                         have n10_:=Aside0.mk (Kd.C_below (by repeat (first|(with_reducible exact HR415_2.out)|(with_reducible refine Kd.C_alloc ?_ _)|(with_reducible refine Kd.C_drewN ?_ _)|(with_reducible refine Kd.C_drew ?_)|exact HR415_2.out)) hb)
                                         have n11_:=Aside0.mk (Kd.C_below (by repeat (first|(with_reducible exact HR416_2.out)|(with_reducible refine Kd.C_alloc ?_ _)|(with_reducible refine Kd.C_drewN ?_ _)|(with_reducible refine Kd.C_drew ?_)|exact HR416_2.out)) hb)
                                         have n12_:=Aside0.mk (Kd.C_below (by repeat (first|(with_reducible exact HR417_2.out)|(with_reducible refine Kd.C_alloc ?_ _)|(with_reducible refine Kd.C_drewN ?_ _)|(with_reducible refine Kd.C_drew ?_)|exact HR417_2.out)) hb)
                                         have n13_:=Aside0.mk (Kd.C_below (by repeat (first|(with_reducible exact HR418_2.out)|(with_reducible refine Kd.C_alloc ?_ _)|(with_reducible refine Kd.C_drewN ?_ _)|(with_reducible refine Kd.C_drew ?_)|exact HR418_2.out)) hb)
                                         have n14_:=Aside0.mk (below_step (by repeat (first|(with_reducible first|exact HB.out|apply below_alloc|apply pw_below_drewN|apply below_drew1|refine below_set ?_ GE405.out|refine below_set ?_ GE412.out)|exact HB.out)) hb)
                                         clear HO_406002
                                         clear HO_413002
                                         clear HL414_2
                                         clear HL415_2
                                         clear HL416_2
                                         clear HL417_2
                                         clear HL418_2
                                         clear BK405
                                         clear BK412
                                         clear HR414_2
                                         clear HR415_2
                                         clear HR416_2
                                         clear HR417_2
                                         clear HR418_2
                                         clear HB
                                         have HO_406002:=n0_
                                         have HO_413002:=n1_
                                         have HL414_2:=n2_
                                         have HL415_2:=n3_
                                         have HL416_2:=n4_
                                         have HL417_2:=n5_
                                         have HL418_2:=n6_
                                         have BK405:=n7_
                                         have BK412:=n8_
                                         have HR414_2:=n9_
                                         have HR415_2:=n10_
                                         have HR416_2:=n11_
                                         have HR417_2:=n12_
                                         have HR418_2:=n13_
                                         have HB:=n14_
                                         clear n0_ n1_ n2_ n3_ n4_ n5_ n6_ n7_ n8_ n9_ n10_ n11_ n12_ n13_ n14_
                                         (try clear hb)
                                         (try clear hb2)
                                         (try clear hk)
                                         (try clear hi)
                                         refine hK.out _ _ ⟨(blk_cell BK405.out 0).trans rfl,(blk_cell BK405.out 1).trans rfl,(blk_cell BK405.out 2).trans rfl,(blk_cell BK412.out 0).trans rfl,(blk_cell BK412.out 1).trans rfl,(blk_cell BK412.out 2).trans rfl,HS6_,HS7_,HS8_,HS9_,HS10_,HS11_,HS12_,HS13_,HS14_,HS15_,HS16_,HS17_,HS18_,HS19_,HS20_⟩ (fun hHeld=>?_)
                                         clear hK K
                                         refine norm_ (a':=?_) ?_ ?_
                                         rotate_left
                                         ·show Act.put _ (some 133) _=_
                                          simp only [Act.put,List.setIfInBounds_toArray,List.set_cons_zero,List.set_cons_succ,i64_w,i32_w]
                                          rfl
                                         refine pure_ (i:=46) (N:=some 134) (v:=?_) (a':=?_) #[T,T,T,T,T,T,T,T,T,T,T,T,T,T,T,T,T,T,T,T,T,T,T,T,T,T,T,T,T,T,T,T,T,T,T,T,T,T,T,T,T,T,T,T,T,T,T,F] rfl rfl (any_of HT_.out (by kernel_rfl)) (fun _ _ _ h=>h) (Or.inl ⟨by rfl,?_⟩) ?_ ?_
                                         rotate_left
                                         ·intro w'
                                          go_simp
                                          with_reducible rfl
                                         rotate_left
                                         ·simp only [Act.put,List.setIfInBounds_toArray,List.set_cons_zero,List.set_cons_succ,i64_w,i32_w]
                                          rfl
                                         refine pure_ (i:=47) (N:=some 6) (v:=?_) (a':=?_) #[T,T,T,T,T,T,T,T,T,T,T,T,T,T,T,T,T,T,T,T,T,T,T,T,T,T,T,T,T,T,T,T,T,T,T,T,T,T,T,T,T,T,T,T,T,T,T,T] rfl rfl (any_of HT_.out (by kernel_rfl)) (fun _ _ _ h=>h) (Or.inl ⟨by rfl,?_⟩) ?_ ?_
                                         rotate_left
                                         ·intro w'
                                          go_simp
                                          with_reducible rfl
                                         rotate_left
                                         ·simp only [Act.put,List.setIfInBounds_toArray,List.set_cons_zero,List.set_cons_succ,i64_w,i32_w]
                                          rfl
                                         refine done_ (done_of HT_.out (by kernel_rfl)) ?_
                                         try go_wp2
                                         go_ret
                                         exact⟨by first|rfl|(simp [errW_none,errW_some] <;> rfl)|(simp [*,errW_none,errW_some] <;> rfl),by repeat (first|(with_reducible first|exact HB.out|apply below_alloc|apply pw_below_drewN|apply below_drew1|refine below_set ?_ GE405.out|refine below_set ?_ GE412.out)|exact HB.out)⟩
                                        ·skip
                                         have c66b0:(((rd_T24 t408 2).f1).toList == ([]:List UInt8))=false:=beq_eq_false_iff_ne.mpr c66
                                         have c66b1:(((rd_T24 t408 2).f1).toList != ([]:List UInt8))=true:=bne_iff_ne.mpr c66
                                         rw [hr] at H
                                         exact absurd H (by simp)
                                       ·exact absurd H (by simp)
                                      ·skip
                                       have c64b0:(((rd_T24 t401 1).f1).toList == ((rd_T24 t408 1).f1).toList)=false:=beq_eq_false_iff_ne.mpr c64
                                       have c64b1:(((rd_T24 t401 1).f1).toList != ((rd_T24 t408 1).f1).toList)=true:=bne_iff_ne.mpr c64
                                       rw [hr] at H
                                       exact absurd H (by simp)
                                     ·exact absurd H (by simp)
                                    ·exact absurd H (by simp)
                                   ·skip
                                    have c61b0:(((rd_T24 t401 0).f1).toList == ((rd_T24 t408 0).f1).toList)=false:=beq_eq_false_iff_ne.mpr c61
                                    have c61b1:(((rd_T24 t401 0).f1).toList != ((rd_T24 t408 0).f1).toList)=true:=bne_iff_ne.mpr c61
                                    rw [hr] at H
                                    exact absurd H (by simp)
                                  ·exact absurd H (by simp)
                                 ·exact absurd H (by simp)
                                ·skip
                                 have c58b0:((t408.length:Int) == 3)=false:=beq_eq_false_iff_ne.mpr c58
                                 have c58b1:((t408.length:Int) != 3)=true:=bne_iff_ne.mpr c58
                                 rw [hr] at H
                                 exact absurd H (by simp)
                               ·skip
                                have c57b0:((t401.length:Int) == 3)=false:=beq_eq_false_iff_ne.mpr c57
                                have c57b1:((t401.length:Int) != 3)=true:=bne_iff_ne.mpr c57
                                rw [hr] at H
                                exact absurd H (by simp)
                           ·exact absurd H (by simp)
                          ·exact absurd H (by simp)
                         ·exact absurd H (by simp)
                        ·exact absurd H (by simp)
                       ·exact absurd H (by simp)
                      ·exact absurd H (by simp)
                     ·exact absurd H (by simp)
                    ·exact absurd H (by simp)
                   ·exact absurd H (by simp)
                  ·exact absurd H (by simp)
                 ·exact absurd H (by simp)
                ·exact absurd H (by simp)
               ·exact absurd H (by simp)
              ·exact absurd H (by simp)
             ·exact absurd H (by simp)
            ·exact absurd H (by simp)
           ·exact absurd H (by simp)
          ·exact absurd H (by simp)
         ·exact absurd H (by simp)
        ·exact absurd H (by simp)
       ·exact absurd H (by simp)
      ·exact absurd H (by simp)
     ·exact absurd H (by simp)
    ·exact absurd H (by simp)
   ·exact absurd H (by simp)
  ·exact absurd H (by simp)
def stowagelaw13_XmlWhite.Pure:Prop:=∀ (a0:ByteArray) (a1:ByteArray) (a2:Int),a0.size≤140737488351232→a1.size≤140737488351232→(Lit.int .i64 a2).wf=true → ∃ k,stowagelaw13_XmlWhite.f k a0 a1 a2=some true
theorem stowagelaw13_XmlWhite.walk (P:stowagelaw13_XmlWhite.Pure) (a0:ByteArray) (a1:ByteArray) (a2:Int) (w:World) (w0:a0.size≤140737488351232) (w1:a1.size≤140737488351232) (w2:(Lit.int .i64 a2).wf=true) (hG:GOk w) :
  Calls Tryd.prog 8 #[.string a0,.string a1,.int .i64 a2] w fun e w'=>e = .returned (.bool true)∧Below w.heap.size w w':=by
 obtain⟨k,h⟩:=P a0 a1 a2 w0 w1 w2
 refine(stowagelaw13_XmlWhite.calls k a0 a1 a2 true w hG h rfl).mono ?_
 rintro e w' ⟨rfl,hd⟩
 exact⟨rfl,hd⟩
end Go.Proofs.YtklcgncaclggcaaDoor.Q
