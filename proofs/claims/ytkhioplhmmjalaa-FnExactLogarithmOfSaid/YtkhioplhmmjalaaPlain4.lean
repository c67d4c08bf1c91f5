/- Plain definitions and lemmas: fewer digits, relative errors. -/
import Derived.Test.YtkhioplhmmjalaaPlain2
namespace Go.Proofs.Ytkhioplhmmjalaa.K
open Go.RowKit

def rfU (k : Int) : Int := if k = 1 then 1000 else if k = 2 then 100 else if k = 3 then 10 else 1
def rfQ (d k : Int) : Int := (2 * d + rfU k) / (2 * rfU k) * rfU k
def rfD (d k : Int) : Int := if rfQ d k = 10000 then 1000 else rfQ d k
def rfT (d t k : Int) : Int := if rfQ d k = 10000 then t + 1 else t
def rfC (d t k : Int) : Int := if figV d t then (if inB k 1 4 then liV (figV (rfD d k) (rfT d t k)) else 2) else 1

end Go.Proofs.Ytkhioplhmmjalaa.K
