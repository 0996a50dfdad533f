/- Lists of slices handed on: of a plain item the decoder tells that it is an empty slice. -/
import Derived.Test.YtdccehmekkcheaaDoorBEngZ
